/- A table of constants in a region that draws: the evaluator's run is true. Conditions: none. -/
import Derived.Test.YtdacfaincamliaaEvGrp2
namespace Go.Proofs.Ytdacfaincamliaa.Ev
open Go Go.RowKit

section
variable {P : Program} {R : Type} {tb : Tb}
variable {c : Cx} {st : St} {a : Act} {o : Oper} {K : AV → St → Option R} {r : R}

theorem gl_unl {g : Grp} {m j : Nat} {listed : Array Bool} (h : (gl g m listed).getD j true = false) : listed.getD j true = false := by
  unfold gl at h
  split at h
  · exact h
  · exact unlisted_set h
  · exact unlisted_set (unlisted_set h)
  · exact unlisted_set (unlisted_set (unlisted_set h))

theorem stepG_one (htb : tb.ok P) {ops : Array Oper} {ap : Bool} {M : List Nat} {Q : Exit → Act → World → Prop} (hp : ∀ ch a w, ¬ Q (.panic ch) a w) (hsel : Region.noSelect ops = true) (hM : tb.deep = false ∨ M = []) (hfx : ∀ o, o ∈ ops.toList → dstOk tb.fixed o)
    {g : Grp} (hg : g.Is ops) {tab idx p l : Leaf} {mx : Nat} (hmx : mx = 1 ∨ mx = 3) (hv : GV tb g tab idx p l mx) {Kc : St → Option R} {rec : Array Bool → St → Option R} {fe : Nat} (hfe : mx ≤ fe)
    (hrec : ∀ {listed : Array Bool} {a : Act} {c : Cx} {st : St} {m mf : Nat}, m ≤ mx → mf + m = fe → Rel c st a.tmps → Ahead g c a tab p l m → (2 ≤ mx → leafRel c idx (a.tmps.getD g.x undef) ∧ gKnown ops g listed = true) → Unl g listed → rec listed st = some r →
      (∀ a' c' st', Kc st' = some r → Rel c' st' a'.tmps → Step c c' → Kp tb.fixed a' a → Q .normal a' c'.w) → wpAnyD P .any ops Q (SD ops false ap M c) mf (gl g m listed) a c.w) :
    ∀ {listed : Array Bool} {a : Act} {c : Cx} {st : St} {m mf' : Nat}, m ≤ mx → mf' + m = fe → Rel c st a.tmps → st.env.length = tb.n → (∀ d, d = g.db ∨ d = g.di ∨ d = g.dl → st.env.getD d .dead = .dead) → Ahead g c a tab p l m → (2 ≤ mx → leafRel c idx (a.tmps.getD g.x undef) ∧ gKnown ops g listed = true) → Unl g listed → (mx = 1 → gKnown ops g listed = false) → stepG tb ops ap M g rec listed st = some r →
      (m < mx → ∀ {a' : Act} {c' : Cx}, Rel c' st a'.tmps → Ahead g c' a' tab p l (m + 1) → (2 ≤ mx → leafRel c' idx (a'.tmps.getD g.x undef) ∧ gKnown ops g listed = true) → Step c c' → Kp tb.fixed a' a → wpAnyD P .any ops Q (SD ops false ap M c') mf' (gl g (m + 1) listed) a' c'.w) →
      (∀ a' c' st', Kc st' = some r → Rel c' st' a'.tmps → Step c c' → Kp tb.fixed a' a → Q .normal a' c'.w) → wpAnyD P .any ops Q (SD ops false ap M c) (mf' + 1) (gl g m listed) a c.w := by
  have F := hg.facts
  intro listed a c st m mf' hm3 hmf hr hn hd hA hx hu hnk h hnext hq
  unfold stepG at h
  split at h
  rotate_left
  · cases h
  rename_i hsafe
  split at h
  · cases h
  rename_i i0 more hrd
  -- what a step outside comes to
  have cont : ∀ {j : Nat} {oj : Oper} {y : Value} {c' : Cx} {st2 : St}, ops[j]? = some oj → g.has j = false → listed.getD j true = false → Rel c' st2 (a.put oj.dst y).tmps → Step c c' → rec (listed.setIfInBounds j true) st2 = some r → wpAnyD P .any ops Q (SD ops false ap M c') mf' ((gl g m listed).setIfInBounds j true) (a.put oj.dst y) c'.w := by
    intro j oj y c' st2 hj hh hun hr2 hst hrc
    obtain ⟨q1, q2, q3, q4⟩ := F.out j oj hj hh
    rw [gl_set hh]
    refine hrec hm3 (by omega) hr2 (hA.keep hst hr.s.sub hv.it hv.ip hv.il q1 q2 q3) (fun h2 => ⟨?_, ?_⟩) (hu.set hh) hrc fun a' c2 st' k1 k2 k3 k4 => hq a' c2 st' k1 k2 (hst.trans k3) (k4.trans (Kp.put (hfx _ (opMem hj)) a y))
    · rw [getD_put_ne _ _ _ _ (fun e => ?_)]
      · exact leaf_keep hv.ix hst hr.s.sub (hx h2).1
      · obtain ⟨e1, he1, hb1, hon1⟩ := waits_spec hg.hi (q4 e)
        obtain ⟨kk, hkk, rfl⟩ := Array.mem_iff_getElem.mp he1
        have := Array.all_eq_true.mp (hx h2).2 kk hkk
        simp only [hb1, hon1, Bool.not_true, Bool.false_or, Bool.or_eq_true, beq_iff_eq] at this
        rcases this with h9 | h9
        · rw [h9] at hh
          simp [Grp.has] at hh
        · rw [(unl_false hun).1] at h9
          cases h9
    · refine Array.all_eq_true.mpr fun kk hkk => ?_
      have := Array.all_eq_true.mp (hx h2).2 kk hkk
      simp only [Bool.or_eq_true] at this ⊢
      rcases this with h9 | h9
      · exact .inl h9
      · exact .inr (getD_set_true h9)
  split at h
  · rename_i i hfind
    obtain ⟨hmem, hpi⟩ := find_mem hfind
    rw [← hrd] at hmem
    simp only [Bool.and_eq_true, Bool.or_eq_true] at hpi
    obtain ⟨⟨hquick, hfree⟩, hlw⟩ := hpi
    obtain ⟨hh, hmr, hmm⟩ := in_ready (m := m) hmem
    split at h
    rotate_left
    · cases h
    rename_i o hi
    have hun := (mem_ready.1 hmr).1
    have h3 : ∀ l j w, SD ops false ap M c (l.setIfInBounds i true) j w → SD ops false ap M c l j w := fun l j w hS => ⟨hS.1, fun h => by cases h⟩
    have hfr : ∀ j oj, ops[j]? = some oj → j ≠ i → (gl g m listed).getD j true = false → (∀ e ∈ oj.after, Region.binds .any e = true → e.on ≠ i) → o.apart ops oj = true := fun j oj hj hne hu2 hno => Region.free_spec hi hfree j oj hj hne (gl_unl hu2) hno
    have free : ∀ {v : Value} {st2 : St}, YieldsIf P ops (fun _ => True) o v a → Rel c st2 (a.put o.dst v).tmps → rec (listed.setIfInBounds i true) st2 = some r → wpAnyD P .any ops Q (SD ops false ap M c) (mf' + 1) (gl g m listed) a c.w := by
      intro v st2 hy hr2 h2
      have hrest := cont hi hh hun hr2 (Step.refl c) h2
      by_cases hw : lateWait ops listed i = true
      · exact wpAnyD_first (S0 := fun _ => True) (Inv := InvL ops false ap M c) hi (Region.noSelect_spec hsel) (fun ch _ _ hh => absurd hh (hp ch _ _)) (fun _ _ _ => trivial) (fun l w hI => ⟨fun _ => hI.1, fun h => by cases h⟩) h3 mf' (gl g m listed) a c.w hfr
          ⟨Sc.refl ap M c, fun h => by cases h⟩ (fun j oj hj hne hu2 hno l w w' _ _ hS => InvL.step (by
            cases hl : lateOp ops j with
            | false => rfl
            | true =>
              obtain ⟨e, he, hb, hon⟩ := lateWait_spec hw j oj hj hne (gl_unl hu2) hl
              exact absurd hon (hno e he hb)) hS) hmm hy hrest
      · have hl : lateOp ops i = true := by
          rcases hlw with hl | hl
          · exact hl
          · exact absurd hl hw
        exact wpAnyD_first (S0 := fun _ => True) (Inv := fun _ _ => True) hi (Region.noSelect_spec hsel) (fun ch _ _ hh => absurd hh (hp ch _ _)) (fun _ _ _ => trivial) (fun l w _ => ⟨fun h0 => (by rw [hl] at h0; cases h0), fun h => by cases h⟩) h3 mf' (gl g m listed) a c.w hfr
          trivial (fun _ _ _ _ _ _ _ _ _ _ _ _ => trivial) hmm hy hrest
    rcases guarded_some hr h with ⟨st1, hr1, hwt, h1⟩ | ⟨st1, hr1, hwt, h1⟩
    · split at h1
      · rename_i hcond
        by_cases hpure : isPure o = true
        · obtain ⟨v, y, hrun, h2, hv2⟩ := evOp_pure htb hpure hr1 h1
          exact free (.inl ⟨hwt, fun w _ => hrun w⟩) (hr1.put (a := a) hv2) h2
        · simp only [hpure, Bool.false_eq_true, false_or, Bool.or_eq_true, Bool.and_eq_true, Bool.not_eq_true', Bool.and_eq_false_iff] at hcond
          obtain ⟨⟨⟨hload, hrow⟩, hout⟩, hlw2⟩ := hcond
          obtain ⟨v, y, b, hrun, h2, hv2, hb, hnr, hno⟩ := evOp_load htb hload hr1 h1
          have hrest := cont hi hh hun (hr1.put (a := a) (dst := o.dst) hv2) (Step.refl c) h2
          have hMout : ∀ i', i' ∈ M → i' ∈ c.D → ¬ c.ow i' b := fun i' hM' hi' hob => by
            refine hno i' hi' (fun e => ?_) hob
            unfold loadOut at hout
            rw [← e] at hout
            simp [hM'] at hout
          have hkey : ∀ w, Sc ap M c w → w.heap[b]? = c.w.heap[b]? := fun w hSw => by
            refine hSw.2 b hb (fun hap i' hi' hob => ?_) hMout
            have hrow' : loadRow o st1 = false := by
              rcases hrow with h9 | h9
              · rw [hap] at h9; cases h9
              · exact h9
            have hi2 := hi'
            rw [hr1.s.ids] at hi2
            obtain ⟨e', he'⟩ := mem_ids hi2
            cases e' with
            | row e t xs => exact hnr hrow' i' _ he' rfl (ownBlock_blk hob)
            | lrow e t n cells => exact hnr hrow' i' _ he' rfl (ownBlock_blk hob)
            | deep e t xs => exact hnr hrow' i' _ he' rfl (ownBlock_blk hob)
            | zip e t l cells r => exact hnr hrow' i' _ he' rfl (ownBlock_blk hob)
            | box t cells =>
              obtain ⟨g, conc, h9, _⟩ := hr1.s.ent _ _ he'
              rw [h9] at hob
              cases hob
          exact wpAnyD_first (S0 := fun w => w.heap[b]? = c.w.heap[b]?) (Inv := InvL ops false ap M c) hi (Region.noSelect_spec hsel) (fun ch _ _ hh => absurd hh (hp ch _ _)) (fun l w hI => hkey w hI.1) (fun l w hI => ⟨fun _ => hI.1, fun h => by cases h⟩) h3 mf' (gl g m listed) a c.w hfr
            ⟨Sc.refl ap M c, fun h => by cases h⟩ (fun j oj hj hne hu2 hno2 l w w' _ _ hS => InvL.step (by
              cases hl : lateOp ops j with
              | false => rfl
              | true =>
                obtain ⟨e, he, hb, hon⟩ := lateWait_spec hlw2 j oj hj hne (gl_unl hu2) hl
                exact absurd hon (hno2 e he hb)) hS) hmm (.inl ⟨hwt, fun w hw => hrun w hw⟩) hrest
      · cases h1
    · exact free (.inr ⟨hwt, rfl⟩) (hr1.put (a := a) (undef_rel c)) h1
  · split at h
    rotate_left
    · cases h
    split at h
    rotate_left
    · cases h
    rename_i o hi
    have hmem : i0 ∈ gReady ops g listed := by rw [hrd]; simp
    obtain ⟨hh, hmr, hmm⟩ := in_ready (m := m) hmem
    have hun := (mem_ready.1 hmr).1
    refine ⟨fun h0 => (by rw [h0] at hmm; cases hmm), fun j hj => ?_⟩
    rcases pick_cases hg hu (by omega) hj with ho | ⟨hm, rfl⟩
    · have hj2 := out_ready hsafe ho hj
      rw [hrd] at hj2
      have hj0 : j = i0 := by simpa using hj2
      subst hj0
      unfold wpOp
      simp only [hi]
      rcases guarded_some hr h with ⟨st1, hr1, hwt, h1⟩ | ⟨st1, hr1, hwt, h1⟩
      · rw [if_pos hwt]
        have done : ∀ {v : AV} {y : Value} {c' : Cx} {st' : St}, rec (listed.setIfInBounds j true) (st'.put o.dst v) = some r → Rel c' st' a.tmps → avRel c' v y → Step c c' → TameM ap M c c' → SD ops false ap M c (gl g m listed) j c'.w ∧ wpAnyD P .any ops Q (SD ops false ap M c) mf' ((gl g m listed).setIfInBounds j true) (a.put o.dst y) c'.w := fun k1 k2 k3 k4 k5 =>
          ⟨⟨fun _ => Sc.of_tame k5 (Sc.refl ap M _), fun h => by cases h⟩, wpAnyD_mono _ _ _ _ (fun _ _ _ _ l w hS => SD.of_tame k5 (fun h => by cases h) hS) (cont hi ho hun (k2.put (a := a) k3) k4 k1)⟩
        split at h1
        · exact .inl (evCallIn_goes (ap := ap) htb hM hr1 h1 _ _ fun v y c' st' k1 k2 k3 k4 k5 => done k1 k2 k3 k4 k5)
        split at h1
        · rename_i ht
          exact .inl (evOp_tame htb hM ht hr1 h1 _ _ fun v y c' st' k1 k2 k3 k4 k5 => done k1 k2 k3 k4 k5)
        · cases h1
      · rw [if_neg (by rw [hwt]; simp)]
        exact ⟨⟨fun _ => Sc.refl ap M c, fun h => by cases h⟩, cont hi ho hun (hr1.put (a := a) (undef_rel c)) (Step.refl c) h1⟩
    · have hlt : m < mx := by
        rcases hmx with h9 | h9
        · by_cases h0 : m = 0
          · omega
          · exfalso
            have h1 : m = 1 := by omega
            subst h1
            obtain ⟨_, o2, ho2, hall⟩ := mem_ready.1 hj
            simp only [nxt] at ho2
            rw [hg.hi] at ho2
            injection ho2 with ho2
            subst ho2
            have : gKnown ops g listed = true := by
              refine Array.all_eq_true.mpr fun kk hkk => ?_
              simp only [Bool.or_eq_true, Bool.not_eq_true', beq_iff_eq]
              cases hb : Region.binds .any g.oi.after[kk] with
              | false => exact .inl (.inl rfl)
              | true =>
                by_cases hon : g.oi.after[kk].on = g.b
                · exact .inl (.inr hon)
                · have := hall _ (Array.getElem_mem hkk) hb
                  simp only [gl] at this
                  rw [getD_set_ne false (fun e => hon e.symm)] at this
                  exact .inr this
            rw [hnk h9] at this
            cases this
        · omega
      refine grp_exec (ap := ap) (M := M) htb hg hv hr hn hd hfx hm hlt hA (fun h1 => (hx (by omega)).1) fun c' a' k1 k2 k3 k4 k5 k6 => ?_
      refine ⟨⟨fun _ => Sc.of_tame k5 (Sc.refl ap M _), fun h => by cases h⟩, wpAnyD_mono _ _ _ _ (fun _ _ _ _ l w hS => SD.of_tame k5 (fun h => by cases h) hS) ?_⟩
      rw [gl_next hm]
      exact hnext hlt k1 k2 (fun h2 => ⟨by rw [k3]; exact leaf_keep hv.ix k4 hr.s.sub (hx h2).1, (hx h2).2⟩) k4 k6

theorem hide_hide {g : Grp} {st : St} : hideG g (hideG g st) = hideG g st := by
  have h : ∀ {st : St}, (∀ d, d = g.db ∨ d = g.di ∨ d = g.dl → st.env.getD d .dead = .dead) → hideG g st = st := by
    intro st h
    unfold hideG
    rw [put_dead (h _ (.inl rfl)), put_dead (h _ (.inr (.inl rfl))), put_dead (h _ (.inr (.inr rfl)))]
  exact h fun d hd => hide_dead hd
theorem evAnyG1_hide {ops : Array Oper} {ap : Bool} {M : List Nat} {g : Grp} {p l : Leaf} {Kc : St → Option R} {fe : Nat} {listed : Array Bool} : evAnyG1 tb ops ap M g p l Kc fe listed (hideG g st) = evAnyG1 tb ops ap M g p l Kc fe listed st := by
  match fe with
  | 0 => rfl
  | 1 => rfl
  | 2 => rfl
  | fuel + 3 => unfold evAnyG1; simp only [hide_len, hide_hide]

theorem evAnyG1_goes (htb : tb.ok P) {ops : Array Oper} {ap : Bool} {M : List Nat} {Q : Exit → Act → World → Prop} (hp : ∀ ch a w, ¬ Q (.panic ch) a w) (hsel : Region.noSelect ops = true) (hM : tb.deep = false ∨ M = []) (hfx : ∀ o, o ∈ ops.toList → dstOk tb.fixed o)
    {g : Grp} (hg : g.Is ops) {tab idx p l : Leaf} (hv : GV tb g tab idx p l 3) {Kc : St → Option R} :
    ∀ (fe k : Nat) {listed : Array Bool} {a : Act} {c : Cx} {st : St} {m mf : Nat}, m + k = 3 → mf + m = fe → Rel c st a.tmps → Ahead g c a tab p l m → (leafRel c idx (a.tmps.getD g.x undef) ∧ gKnown ops g listed = true) → Unl g listed → evAnyG1 tb ops ap M g p l Kc fe listed st = some r →
      (∀ a' c' st', Kc st' = some r → Rel c' st' a'.tmps → Step c c' → Kp tb.fixed a' a → Q .normal a' c'.w) → wpAnyD P .any ops Q (SD ops false ap M c) mf (gl g m listed) a c.w := by
  intro fe
  induction fe using Nat.strongRecOn with
  | _ fe ihf =>
    intro k
    induction k with
    | zero =>
      intro listed a c st m mf hk hmf hr hA hx hu h hq
      obtain rfl : m = 3 := by omega
      unfold evAnyG1 at h
      split at h
      rotate_left
      · cases h
      rename_i fuel
      split at h
      rotate_left
      · cases h
      rename_i hn
      have hr1 := hide_rel hr g
      split at h
      · split at h
        · have hr2 := put_slot (s := g.dl) hr1 (v := .lf l) (hA.l (by omega))
          have hmf2 : mf = fuel := by omega
          subst hmf2
          exact evAny_goes htb hp hsel hfx hr2 h hq
        · cases h
      · split at h
        · cases h
        · rename_i f
          have hmf2 : mf = (f + 0) + 1 := by omega
          subst hmf2
          exact stepG_one htb hp hsel hM hfx hg (.inr rfl) hv (fe := f + 3) (by omega) (fun {listed a c st m mf} h1 h2 h3 h4 h5 h6 h7 h8 => ihf (f + 3) (by omega) (3 - m) (by omega) h2 h3 h4 (h5 (by omega)) h6 h7 h8) (by omega) (by omega) hr1 (hide_len.trans hn) (fun d hd => hide_dead hd) hA (fun _ => hx) hu (fun h => by cases h) h (fun h => by omega) hq
    | succ k ihk =>
      intro listed a c st m mf hk hmf hr hA hx hu h hq
      have hm : m < 3 := by omega
      have hr1 := hide_rel hr g
      rw [← evAnyG1_hide] at h
      have h00 := h
      have next : ∀ {mf' : Nat} {a' : Act} {c' : Cx}, mf' + (m + 1) = fe → Rel c' (hideG g st) a'.tmps → Ahead g c' a' tab p l (m + 1) → (leafRel c' idx (a'.tmps.getD g.x undef) ∧ gKnown ops g listed = true) → Step c c' → Kp tb.fixed a' a → wpAnyD P .any ops Q (SD ops false ap M c') mf' (gl g (m + 1) listed) a' c'.w := by
        intro mf' a' c' k0 k1 k2 k3 k4 k5
        exact ihk (by omega) k0 k1 k2 k3 hu h00 fun a2 c2 st2 q1 q2 q3 q4 => hq a2 c2 st2 q1 q2 (k4.trans q3) (q4.trans k5)
      unfold evAnyG1 at h
      split at h
      rotate_left
      · cases h
      rename_i fuel
      split at h
      rotate_left
      · cases h
      rename_i hn
      obtain ⟨mf', rfl⟩ : ∃ mf', mf = mf' + 1 := ⟨mf - 1, by omega⟩
      split at h
      · split at h
        · rename_i hlast
          refine ⟨fun h0 => ?_, fun j hj => ?_⟩
          · have := next_ready hg hu hm (fun _ => hx.2)
            rw [h0] at this
            cases this
          · rcases pick_cases hg hu (by omega) hj with ho | ⟨_, rfl⟩
            · exact (last_ready hu hg hlast hm ho hj).elim
            · refine grp_exec (ap := ap) (M := M) htb hg hv hr1 hn (fun d hd => hide_dead hd) hfx hm (by omega) hA (fun _ => hx.1) fun c' a' k1 k2 k3 k4 k5 k6 => ?_
              refine ⟨⟨fun _ => Sc.of_tame k5 (Sc.refl ap M _), fun h => by cases h⟩, wpAnyD_mono _ _ _ _ (fun _ _ _ _ l w hS => SD.of_tame k5 (fun h => by cases h) hS) ?_⟩
              rw [gl_next hm]
              exact next (by omega) k1 k2 ⟨by rw [k3]; exact leaf_keep hv.ix k4 hr.s.sub hx.1, hx.2⟩ k4 k6
        · cases h
      · split at h
        · cases h
        · rename_i f
          rw [hide_hide] at h
          exact stepG_one htb hp hsel hM hfx hg (.inr rfl) hv (fe := f + 3) (by omega) (fun {listed a c st m mf} h1 h2 h3 h4 h5 h6 h7 h8 => ihf (f + 3) (by omega) (3 - m) (by omega) h2 h3 h4 (h5 (by omega)) h6 h7 h8) (by omega) (by omega) hr1 hn (fun d hd => hide_dead hd) hA (fun _ => hx) hu (fun h => by cases h) h (fun _ {a' c'} k1 k2 k3 k4 k5 => next (by omega) k1 k2 (k3 (by omega)) k4 k5) hq

theorem evAnyG0_hide {ops : Array Oper} {ap : Bool} {M : List Nat} {g : Grp} {tab : Leaf} {Kc : St → Option R} {fe : Nat} {listed : Array Bool} (h : gKnown ops g listed = false) : evAnyG0 tb ops ap M g tab Kc fe listed (hideG g st) = evAnyG0 tb ops ap M g tab Kc fe listed st := by
  match fe with
  | 0 => rfl
  | 1 => rfl
  | fuel + 2 => unfold evAnyG0; simp only [hide_len, hide_hide, h, Bool.false_eq_true, if_false]

theorem evAnyG0_goes (htb : tb.ok P) {ops : Array Oper} {ap : Bool} {M : List Nat} {Q : Exit → Act → World → Prop} (hp : ∀ ch a w, ¬ Q (.panic ch) a w) (hsel : Region.noSelect ops = true) (hM : tb.deep = false ∨ M = []) (hfx : ∀ o, o ∈ ops.toList → dstOk tb.fixed o)
    {g : Grp} (hg : g.Is ops) {tab : Leaf} (hv : GV tb g tab .dead .dead .dead 1) {Kc : St → Option R} :
    ∀ (fe k : Nat) {listed : Array Bool} {a : Act} {c : Cx} {st : St} {m mf : Nat}, m + k = 1 → mf + m = fe → Rel c st a.tmps → Ahead g c a tab .dead .dead m → Unl g listed → evAnyG0 tb ops ap M g tab Kc fe listed st = some r →
      (∀ a' c' st', Kc st' = some r → Rel c' st' a'.tmps → Step c c' → Kp tb.fixed a' a → Q .normal a' c'.w) → wpAnyD P .any ops Q (SD ops false ap M c) mf (gl g m listed) a c.w := by
  intro fe
  induction fe using Nat.strongRecOn with
  | _ fe ihf =>
    intro k
    induction k with
    | zero =>
      intro listed a c st m mf hk hmf hr hA hu h hq
      have known : ∀ {fuel : Nat}, fe = fuel → gKnown ops g listed = true → (match st.env.getD g.x .dead with | .one (.lf (.v (.int k n))) => plcOf tb g tab (.v (.int k n)) fun p l => evAnyG1 tb ops ap M g p l Kc fuel listed st | _ => none) = some r → wpAnyD P .any ops Q (SD ops false ap M c) mf (gl g m listed) a c.w := by
        intro fuel hf hkn h
        subst hf
        have hgx := hr.get g.x
        split at h
        · rename_i kk n hx
          rw [hx] at hgx
          obtain ⟨p, l, k1, k2, k3, k4, k5⟩ := plc_val hg h
          exact evAnyG1_goes htb hp hsel hM hfx hg (tab := tab) (idx := .v (.int kk n)) ⟨hv.tabv, hv.it, rfl, k2, k3, fun _ => k4, fun _ => k5, hv.db, hv.di, hv.dl⟩ fe (3 - m) (by omega) hmf hr ⟨hA.tab, fun h => by omega, fun h => by omega⟩ ⟨hgx, hkn⟩ hu k1 hq
        · cases h
      have h00 := h
      unfold evAnyG0 at h
      split at h
      rotate_left
      · cases h
      rename_i fuel
      split at h
      rotate_left
      · cases h
      rename_i hn
      split at h
      · rename_i hkn
        exact known rfl hkn h
      · rename_i hkn
        have hkn : gKnown ops g listed = false := by simpa using hkn
        obtain ⟨mf', rfl⟩ : ∃ mf', mf = mf' + 1 := ⟨mf - 1, by omega⟩
        exact stepG_one htb hp hsel hM hfx hg (.inl rfl) hv (fe := fuel + 1) (by omega) (fun {listed a c st m mf} h1 h2 h3 h4 h5 h6 h7 h8 => ihf (fuel + 1) (by omega) (1 - m) (by omega) h2 h3 h4 h6 h7 h8) (by omega) (by omega) (hide_rel hr g) (hide_len.trans hn) (fun d hd => hide_dead hd) hA (fun h => by omega) hu (fun _ => hkn) h (fun hlt {a' c'} k1 k2 k3 k4 k5 => by omega) hq
    | succ k ihk =>
      intro listed a c st m mf hk hmf hr hA hu h hq
      have known : ∀ {fuel : Nat}, fe = fuel → gKnown ops g listed = true → (match st.env.getD g.x .dead with | .one (.lf (.v (.int k n))) => plcOf tb g tab (.v (.int k n)) fun p l => evAnyG1 tb ops ap M g p l Kc fuel listed st | _ => none) = some r → wpAnyD P .any ops Q (SD ops false ap M c) mf (gl g m listed) a c.w := by
        intro fuel hf hkn h
        subst hf
        have hgx := hr.get g.x
        split at h
        · rename_i kk n hx
          rw [hx] at hgx
          obtain ⟨p, l, k1, k2, k3, k4, k5⟩ := plc_val hg h
          exact evAnyG1_goes htb hp hsel hM hfx hg (tab := tab) (idx := .v (.int kk n)) ⟨hv.tabv, hv.it, rfl, k2, k3, fun _ => k4, fun _ => k5, hv.db, hv.di, hv.dl⟩ fe (3 - m) (by omega) hmf hr ⟨hA.tab, fun h => by omega, fun h => by omega⟩ ⟨hgx, hkn⟩ hu k1 hq
        · cases h
      have h00 := h
      unfold evAnyG0 at h
      split at h
      rotate_left
      · cases h
      rename_i fuel
      split at h
      rotate_left
      · cases h
      rename_i hn
      split at h
      · rename_i hkn
        exact known rfl hkn h
      · rename_i hkn
        have hkn : gKnown ops g listed = false := by simpa using hkn
        obtain ⟨mf', rfl⟩ : ∃ mf', mf = mf' + 1 := ⟨mf - 1, by omega⟩
        exact stepG_one htb hp hsel hM hfx hg (.inl rfl) hv (fe := fuel + 1) (by omega) (fun {listed a c st m mf} h1 h2 h3 h4 h5 h6 h7 h8 => ihf (fuel + 1) (by omega) (1 - m) (by omega) h2 h3 h4 h6 h7 h8) (by omega) (by omega) (hide_rel hr g) (hide_len.trans hn) (fun d hd => hide_dead hd) hA (fun h => by omega) hu (fun _ => hkn) h (fun hlt {a' c'} k1 k2 k3 k4 k5 => ihk (by omega) (by omega) k1 k2 hu (by rw [evAnyG0_hide hkn]; exact h00) fun a2 c2 st2 q1 q2 q3 q4 => hq a2 c2 st2 q1 q2 (k4.trans q3) (q4.trans k5)) hq

theorem evAnyG_goes (htb : tb.ok P) {ops : Array Oper} {ap : Bool} {M : List Nat} {Q : Exit → Act → World → Prop} (hp : ∀ ch a w, ¬ Q (.panic ch) a w) (hsel : Region.noSelect ops = true) (hM : tb.deep = false ∨ M = []) (hfx : ∀ o, o ∈ ops.toList → dstOk tb.fixed o)
    {g : Grp} (hg : g.Is ops) {Kc : St → Option R} (hr : Rel c st a.tmps) (h : evAnyG tb ops ap M g (Array.replicate ops.size false) st Kc = some r)
    (hq : ∀ a' c' st', Kc st' = some r → Rel c' st' a'.tmps → Step c c' → Kp tb.fixed a' a → Q .normal a' c'.w) : wpAnyD P .any ops Q (SD ops false ap M c) ops.size (Array.replicate ops.size false) a c.w := by
  unfold evAnyG at h
  split at h
  · rename_i hlt
    split at h
    · rename_i tab htab
      split at h
      · rename_i hid
        refine evAnyG0_goes htb hp hsel hM hfx hg (tab := tab) ⟨htab, by simpa using hid, rfl, rfl, rfl, fun h => by omega, fun h => by omega, hlt.1, hlt.2.1, hlt.2.2⟩ ops.size 1 (m := 0) rfl rfl hr ⟨fun h => by omega, fun h => by omega, fun h => by omega⟩ (fun j hj => ?_) h hq
        have hlt : j < ops.size := by
          simp only [Grp.has, Bool.or_eq_true, beq_iff_eq] at hj
          rcases hj with (rfl | rfl) | rfl
          · exact (Array.getElem?_eq_some_iff.1 hg.hb).1
          · exact (Array.getElem?_eq_some_iff.1 hg.hi).1
          · exact (Array.getElem?_eq_some_iff.1 hg.hl).1
        simp [Array.getD_eq_getD_getElem?, hlt]
      · cases h
    · cases h
  · cases h

end
end Go.Proofs.Ytdacfaincamliaa.Ev
