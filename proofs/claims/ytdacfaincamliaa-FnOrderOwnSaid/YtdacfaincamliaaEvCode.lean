/- The evaluator's runs through code are true of the machine. Conditions: none. -/
import Derived.Test.YtdacfaincamliaaEvT
namespace Go.Proofs.Ytdacfaincamliaa.Ev
open Go Go.RowKit

section
variable {P : Program} {R : Type} {tb : Tb}
variable {c : Cx} {st : St} {a : Act} {o : Oper} {K : AV → St → Option R} {r : R}

theorem Tb.ok.toM (h : tb.ok P) (M : List Nat) : (tbM tb M).ok P := ⟨h.mixed, ⟨h.ok0.ti⟩, h.con⟩
theorem Tb.ok.toS (h : tb.ok P) (ops : Array Oper) (M : List Nat) : (tbS tb ops M).ok P := ⟨h.mixed, ⟨h.ok0.ti⟩, h.con⟩
theorem tbM_or (tb : Tb) (M : List Nat) : (tbM tb M).deep = false ∨ M = [] := by
  cases M with
  | nil => exact .inr rfl
  | cons m M => exact .inl (by simp [tbM])

theorem Step.drew (c : Cx) : Step c { c with w := { c.w with drawn := c.w.drawn + 1 } } :=
  ⟨⟨rfl, rfl, rfl, Nat.le_refl _, fun _ _ => rfl⟩, fun _ _ => rfl, fun _ h => h, fun _ h => h, fun _ h => .inl h⟩
theorem Rel.drew {tmps : Array Value} (hr : Rel c st tmps) : Rel { c with w := { c.w with drawn := c.w.drawn + 1 } } st tmps := by
  have hl : ∀ l y, leafRel c l y → leafRel { c with w := { c.w with drawn := c.w.drawn + 1 } } l y := fun l y h =>
    leafRel.move (c := c) (c' := { c with w := { c.w with drawn := c.w.drawn + 1 } }) (fun _ _ => rfl) hr.s.sub (fun _ h => h) (fun _ h => h) (fun i _ hi => ⟨hi, rfl⟩) h
  refine ⟨⟨hr.s.ids, hr.s.nodup, fun i e he => ?_, hr.s.apartX, hr.s.ext, hr.s.sub, hr.s.lt⟩, hr.env.mono fun _ _ => avRel.imp hl⟩
  have := (hr.s.ent i e he).move (c1 := { c with w := { c.w with drawn := c.w.drawn + 1 } }) (f := fun l => l) hl (fun _ _ => rfl) rfl (fun g _ => rfl) (fun g hg => (hr.s.ent i e he).notT hg) (fun g hg => hg)
  rwa [mapE_id (fun _ => rfl)] at this

theorem preOpen_some {tmps : Array Value} {ops : List Oper} {K' : St → Option R} (h : preOpen tb ops st K' = some r) (hr : Rel c st tmps) : ∃ st' c', K' st' = some r ∧ Rel c' st' tmps ∧ Step c c' ∧ c'.w = c.w := by
  unfold preOpen at h
  split at h
  · obtain ⟨st', c', h1, h2, h3, h4, _⟩ := openZ_some h hr
    exact ⟨st', c', h1, h2, h3, h4⟩
  · exact ⟨st, c, h, hr, Step.refl c, rfl⟩

/-! ### Code -/
def Ex.toExit : Ex → Exit
  | .normal => .normal
  | .exit id => .exit id
  | .ret => .ret

def CodeGoes (P : Program) (fx : List Nat) (code : Code) (c : Cx) (a : Act) (K : Ex → St → Option R) (r : R) : Prop :=
  ∀ Q : Exit → Act → World → Prop, (∀ e st' c' a', K e st' = some r → Rel c' st' a'.tmps → Step c c' → Kp fx a' a → Q e.toExit a' c'.w) → code.wp P Q a c.w

theorem least {p : Nat → Prop} : ∀ n, p n → ∃ m, p m ∧ ∀ k, p k → m ≤ k := by
  intro n
  induction n using Nat.strongRecOn with
  | _ n ih =>
    intro h
    by_cases hh : ∃ k, k < n ∧ p k
    · obtain ⟨k, hk, hp⟩ := hh
      exact ih k hk hp
    · exact ⟨n, h, fun k hk => Nat.le_of_not_lt fun hlt => hh ⟨k, hlt, hk⟩⟩

theorem wp_loop_n {code : Code} {Q : Exit → Act → World → Prop} (J : Nat → Act → World → Prop)
    (round : ∀ n a w, J n a w → code.wp P (Exit.then (fun a' w' => ∃ m, m < n ∧ J m a' w') Q) a w) {n : Nat} {a : Act} {w : World} (h : J n a w) : (Code.loop code).wp P Q a w := by
  have hmin : ∀ a w, (∃ n, J n a w) → ∃ m, J m a w ∧ ∀ k, J k a w → m ≤ k := fun a w ⟨n, hn⟩ => least n hn
  refine wp_loop (fun a w => ∃ n, J n a w) (fun a w => Classical.epsilon fun m => J m a w ∧ ∀ k, J k a w → m ≤ k) ⟨n, h⟩ fun a w hI => ?_
  have hm := Classical.epsilon_spec (hmin a w hI)
  refine Code.wp_mono (fun e a' w' hq => ?_) (round _ a w hm.1)
  cases e with
  | normal =>
    obtain ⟨m, hlt, hJ⟩ := hq
    have hm' := Classical.epsilon_spec (hmin a' w' ⟨m, hJ⟩)
    exact ⟨⟨m, hJ⟩, Nat.lt_of_le_of_lt (hm'.2 m hJ) hlt⟩
  | _ => exact hq

theorem loopK_goes {body : St → (Ex → St → Option R) → Option R} {code : Code} {nrm : St → St} {K : Ex → St → Option R}
    (hb : ∀ {K : Ex → St → Option R} {c : Cx} {st : St} {a : Act}, Rel c st a.tmps → body st K = some r → CodeGoes P tb.fixed code c a K r)
    (hn : ∀ {c : Cx} {st : St} {tmps : Array Value}, Rel c st tmps → ∃ c', Rel c' (nrm st) tmps ∧ Step c c' ∧ c'.w = c.w)
    {n : Nat} {c : Cx} {st : St} {a : Act} (hr : Rel c st a.tmps) (h : loopK n body nrm K st = some r) : CodeGoes P tb.fixed (.loop code) c a K r := by
  intro Q hq
  refine wp_loop_n (fun n a' w' => ∃ c' st', loopK n body nrm K st' = some r ∧ Rel c' st' a'.tmps ∧ Step c c' ∧ Kp tb.fixed a' a ∧ c'.w = w') ?_ (n := n) ⟨c, st, h, hr, Step.refl c, Kp.refl _ _, rfl⟩
  rintro m a1 w1 ⟨c1, st1, h1, h2, h3, h4, rfl⟩
  cases m with
  | zero => cases h1
  | succ m =>
    obtain ⟨c2, k1, k2, k3⟩ := hn h2
    have := hb k1 (show body (nrm st1) _ = some r from h1)
    rw [← k3]
    refine this _ fun e st' c' a' g1 g2 g3 g4 => ?_
    cases e with
    | normal => exact ⟨m, Nat.lt_succ_self m, c', st', g1, g2, h3.trans (k2.trans g3), g4.trans h4, rfl⟩
    | exit id => exact hq (.exit id) st' c' a' g1 g2 (h3.trans (k2.trans g3)) (g4.trans h4)
    | ret => exact hq .ret st' c' a' g1 g2 (h3.trans (k2.trans g3)) (g4.trans h4)

theorem getOut_some {tmps : Array Value} : ∀ {os : List (Ex × List (Nat × LK))} {e : Ex} {st : St} {K : odens os → Option R}, getOut os e st K = some r → Rel c st tmps →
    ∃ o c', K o = some r ∧ Step c c' ∧ c'.w = c.w ∧ ∀ {R' : Type} {r' : R'} {K' : Ex → St → Option R'}, putOut st.env.length os o K' = some r' → ∃ st2, K' e st2 = some r' ∧ Rel c' st2 tmps
  | [], e, st, K, h, hr => by cases h
  | (e', sig) :: os, e, st, K, h, hr => by
    simp only [getOut] at h
    split at h
    · rename_i he
      subst he
      obtain ⟨x, c', h1, h2, h3, h4⟩ := reshape h hr
      exact ⟨.inl x, c', h1, h3, h4, fun hk => ⟨_, hk, h2⟩⟩
    · obtain ⟨o, c', h1, h2, h3, h4⟩ := getOut_some h hr
      exact ⟨.inr o, c', h1, h2, h3, fun hk => h4 hk⟩

def Goes (P : Program) (tb : Tb) (code : Code) : Prop :=
  ∀ {R : Type} {K : Ex → St → Option R} {r : R} {c : Cx} {st : St} {a : Act}, LpAll tb code → Rel c st a.tmps → evCode tb code st K = some r → CodeGoes P tb.fixed code c a K r

theorem lp_goes {body : Code} {l : Lp} (hb : Goes P tb body) (hla : LpAll tb body) (hl : LpOk tb body l) {K : Ex → St → Option R} {o : odens l.outs} {m : Nat} {x : sdens l.sig} {c : Cx} {a : Act}
    (hrun : l.run m x = some o) (hr : Rel c (putVals l.sig x (St.blank tb.n)) a.tmps) (hk : putOut tb.n l.outs o K = some r) : CodeGoes P tb.fixed (.loop body) c a K r := by
  intro Q hq
  refine wp_loop_n (fun m a' w' => ∃ c' x', l.run m x' = some o ∧ Rel c' (putVals l.sig x' (St.blank tb.n)) a'.tmps ∧ Step c c' ∧ Kp tb.fixed a' a ∧ c'.w = w') ?_ (n := m) ⟨c, x, hrun, hr, Step.refl c, Kp.refl _ _, rfl⟩
  rintro m a1 w1 ⟨c1, x1, h1, h2, h3, h4, rfl⟩
  cases m with
  | zero => rw [hl.1] at h1; cases h1
  | succ m =>
    rw [hl.2] at h1
    refine hb hla h2 h1 _ fun e st' c' a' g1 g2 g3 g4 => ?_
    split at g1
    · rename_i hlen
      have out : getOut l.outs e st' some = some o → Q e.toExit a' c'.w := by
        intro g1
        obtain ⟨o', c2, k1, k2, k3, k4⟩ := getOut_some g1 g2
        injection k1 with k1
        subst k1
        rw [hlen] at k4
        obtain ⟨st2, q1, q2⟩ := k4 hk
        rw [← k3]
        exact hq e st2 c2 a' q1 q2 (h3.trans (g3.trans k2)) (g4.trans h4)
      cases e with
      | normal =>
        obtain ⟨x2, c2, k1, k2, k3, k4⟩ := reshape g1 g2
        rw [hlen] at k2
        exact ⟨m, Nat.lt_succ_self m, c2, x2, k1, k2, h3.trans (g3.trans k3), g4.trans h4, k4⟩
      | exit id => exact out g1
      | ret => exact out g1
    · cases g1

theorem LpAll.seq {a b : Code} (h : LpAll tb (.seq a b)) : LpAll tb a ∧ LpAll tb b := by
  have hf := h.fx
  simp only [fixOk, Bool.and_eq_true] at hf
  exact ⟨⟨hf.1, fun p hp => h.lp p (List.mem_append_left _ hp), fun p hp => h.ct p (List.mem_cons_of_mem _ (List.mem_append_left _ hp))⟩, ⟨hf.2, fun p hp => h.lp p (List.mem_append_right _ hp), fun p hp => h.ct p (List.mem_cons_of_mem _ (List.mem_append_right _ hp))⟩⟩
theorem LpAll.cond {x : Operand} {a b : Code} (h : LpAll tb (.cond x a b)) : LpAll tb a ∧ LpAll tb b := by
  have hf := h.fx
  simp only [fixOk, Bool.and_eq_true] at hf
  exact ⟨⟨hf.1, fun p hp => h.lp p (List.mem_append_left _ hp), fun p hp => h.ct p (List.mem_append_left _ hp)⟩, ⟨hf.2, fun p hp => h.lp p (List.mem_append_right _ hp), fun p hp => h.ct p (List.mem_append_right _ hp)⟩⟩
theorem LpAll.block {id : Nat} {a : Code} (h : LpAll tb (.block id a)) : LpAll tb a := ⟨h.fx, fun p hp => h.lp p (List.mem_cons_of_mem _ hp), fun p hp => h.ct p hp⟩
theorem LpAll.loop {a : Code} (h : LpAll tb (.loop a)) : LpAll tb a := ⟨h.fx, fun p hp => h.lp p hp, fun p hp => h.ct p hp⟩

theorem evCode_goes2 (htb : tb.ok P) (code : Code) : Goes P tb code ∧ ∀ b, code = .loop b → Goes P tb b := by
  induction code with
  | skip => exact ⟨fun {R K r c st a} _ hr h Q hq => wp_skip (hq .normal st c a h hr (Step.refl c) (Kp.refl _ _)), fun _ h => (by cases h)⟩
  | region id ops draw =>
    refine ⟨fun {R K r c st a} hla hr h Q hq => ?_, fun _ h => (by cases h)⟩
    cases draw with
    | true =>
      simp only [evCode] at h
      split at h
      · rename_i hsel
        have hdr : Rel { c with w := { c.w with drawn := c.w.drawn + 1 } } st a.tmps := hr.drew
        let Q' : Exit → Act → World → Prop := fun e a w => match e with | .panic _ => False | e => Q e a w
        refine Code.wp_mono (Q := Q') (fun e a w hh => by cases e <;> first | exact hh | exact hh.elim) ?_
        split at h
        · rename_i g hg
          refine wp_region_any htb.mixed (wpAny_of_D _ _ _ _ (evAnyG_goes (Q := Q') (htb.toM _) (fun _ _ _ hh => hh) hsel (tbM_or tb _) (fixOk_region hla.fx) (findGrp_spec hg) hdr h fun a' c' st' h1 h2 h3 h4 => ?_))
          exact hq .normal st' c' a' h1 h2 (Step.trans (Step.drew c) h3) h4
        · split at h
          · rename_i g hg
            have hok : Two.ok ops g = true := by
              unfold findTwo at hg
              split at hg
              · split at hg
                · split at hg
                  · split at hg
                    · rename_i hok
                      injection hg with hg
                      rw [← hg]
                      exact hok
                    · cases hg
                  · cases hg
                · cases hg
              · cases hg
            refine wp_region_any htb.mixed (wpAny_of_D _ _ _ _ (evTwo_goes (Q := Q') (htb.toM _) (fun _ _ _ hh => hh) hsel (fixOk_region hla.fx) hok hdr h fun a' c' st' h1 h2 h3 h4 => ?_))
            exact hq .normal st' c' a' h1 h2 (Step.trans (Step.drew c) h3) h4
          split at h
          · rename_i z d hz
            obtain ⟨oz, te, g1, g2, g3, g4, g5, g6⟩ := findAl_spec hz
            have hlt : z < ops.size := (Array.getElem?_eq_some_iff.1 g1).1
            split at h
            · rename_i k hk
              unfold zKindAt at hk
              rw [g1] at hk
              simp only at hk
              have hpx : zParts ops z k = true := by
                cases k with
                | s1 e ty x =>
                  obtain ⟨_, _, _, hop, _⟩ := zKind_s1 hk
                  rw [g2] at hop
                  cases hop
                | _ => rfl
              refine wp_region_any htb.mixed (wpAny_of_D _ _ _ _ (evAnyZ_goes (Q := Q') (htb.toM _) (fun _ _ _ hh => hh) hsel (tbM_or tb _) (fixOk_region hla.fx) (z := z) (d := d) ⟨g1, hk, g3, g5, hpx, g6⟩ ops.size none (by simp) hdr Pd.none_ (fun h => by cases h) (by simp [Array.getD_eq_getD_getElem?, hlt]) h fun a' c' st' h1 h2 h3 h4 => ?_))
              exact hq .normal st' c' a' h1 h2 (Step.trans (Step.drew c) h3) h4
            · cases h
          split at h
          · rename_i z d hz
            obtain ⟨oz, g1, g3, g5, g6⟩ := findSl_spec hz
            have hlt : z < ops.size := (Array.getElem?_eq_some_iff.1 g1).1
            split at h
            · rename_i k hk
              unfold zKindAt at hk
              rw [g1] at hk
              simp only at hk
              split at h
              · rename_i hpx
                refine wp_region_any htb.mixed (wpAny_of_D _ _ _ _ (evAnyZ_goes (Q := Q') (htb.toM _) (fun _ _ _ hh => hh) hsel (tbM_or tb _) (fixOk_region hla.fx) (z := z) (d := d) ⟨g1, hk, g3, g5, hpx, g6⟩ ops.size none (by simp) hdr Pd.none_ (fun h => by cases h) (by simp [Array.getD_eq_getD_getElem?, hlt]) h fun a' c' st' h1 h2 h3 h4 => ?_))
                exact hq .normal st' c' a' h1 h2 (Step.trans (Step.drew c) h3) h4
              · cases h
            · cases h
          · obtain ⟨st2, c2, h, hdr2, hs2, hw2⟩ := preOpen_some h hdr
            refine wp_region_any htb.mixed ?_
            have hG := wpAny_of_D _ _ _ _ (evAny_goes (Q := Q') (htb.toS _ _) (fun _ _ _ hh => hh) hsel (fixOk_region hla.fx) hdr2 h fun a' c' st' h1 h2 h3 h4 => hq .normal st' c' a' h1 h2 (Step.trans (Step.drew c) (hs2.trans h3)) h4)
            rw [hw2] at hG
            exact hG
      · cases h
    | false => exact wp_region_list (evOps_goes htb (fixOk_region hla.fx) hr h fun a' c' st' h1 h2 h3 h4 => hq .normal st' c' a' h1 h2 h3 h4)
  | seq x y ihx ihy =>
    refine ⟨fun {R K r c st a} hla hr h Q hq => ?_, fun _ h => (by cases h)⟩
    refine wp_seq (ihx.1 hla.seq.1 hr h _ fun e st' c' a' h1 h2 h3 h4 => ?_)
    cases e with
    | normal =>
      show Code.wp P y Q a' c'.w
      simp only at h1
      split at h1
      · rename_i ct hct
        split at h1
        · rename_i hn
          have hok := hla.ct (firstReg y, y) (by simp [seconds]) ct hct
          obtain ⟨x2, c1, k1, k2, k3, k4⟩ := reshape h1 h2
          split at k1
          · rename_i o ho
            rw [hn] at k2
            rw [hok] at ho
            rw [← k4]
            refine ihy.1 hla.seq.2 k2 ho _ fun e st2 c2 a2 g1 g2 g3 g4 => ?_
            split at g1
            · rename_i hlen
              obtain ⟨o', c3, q1, q2, q3, q4⟩ := getOut_some g1 g2
              injection q1 with q1
              subst q1
              rw [hlen] at q4
              obtain ⟨st3, m1, m2⟩ := q4 k1
              rw [← q3]
              exact hq e st3 c3 a2 m1 m2 (h3.trans (k3.trans (g3.trans q2))) (g4.trans h4)
            · cases g1
          · cases k1
        · cases h1
      · exact ihy.1 hla.seq.2 h2 h1 _ fun e st2 c2 a2 k1 k2 k3 k4 => hq e st2 c2 a2 k1 k2 (h3.trans k3) (k4.trans h4)
    | exit id => exact hq (.exit id) st' c' a' h1 h2 h3 h4
    | ret => exact hq .ret st' c' a' h1 h2 h3 h4
  | cond x y z ihy ihz =>
    refine ⟨fun {R K r c st a} hla hr h Q hq => ?_, fun _ h => (by cases h)⟩
    unfold evCode at h
    obtain ⟨b, hb, h⟩ := boolOf_some h
    have hx := hr.ev x
    rw [hb] at hx
    refine wp_cond (av_v hx) ?_
    cases b with
    | true => exact ihy.1 hla.cond.1 hr h _ hq
    | false => exact ihz.1 hla.cond.2 hr h _ hq
  | block id body ih =>
    refine ⟨fun {R K r c st a} hla hr h Q hq => ?_, fun _ h => (by cases h)⟩
    have fin : CodeGoes P tb.fixed body c a (fun e st' => match e with | .exit j => if j = id then K .normal st' else K (.exit j) st' | e => K e st') r → (Code.block id body).wp P Q a c.w := by
      intro hg
      refine wp_block (hg _ fun e st' c' a' h1 h2 h3 h4 => ?_)
      cases e with
      | normal => exact hq .normal st' c' a' h1 h2 h3 h4
      | exit j =>
        show Exit.inBlock id Q (.exit j) a' c'.w
        simp only [Exit.inBlock]
        simp only at h1
        split
        · rename_i hj; rw [if_pos hj] at h1; exact hq .normal st' c' a' h1 h2 h3 h4
        · rename_i hj; rw [if_neg hj] at h1; exact hq (.exit j) st' c' a' h1 h2 h3 h4
      | ret => exact hq .ret st' c' a' h1 h2 h3 h4
    unfold evCode at h
    split at h
    · rename_i l hl
      split at h
      · rename_i hn
        obtain ⟨b, hbody, hok⟩ := hla.lp (id, body) (by simp [blocks]) l hl
        simp only at hbody
        obtain ⟨x, c1, k1, k2, k3, k4⟩ := reshape h hr
        split at k1
        · rename_i o ho
          rw [hn] at k2
          have hlb : LpAll tb b := by
            have := hla.block
            rw [hbody] at this
            exact this.loop
          have hg := lp_goes (ih.2 b hbody) hlb hok ho k2 k1
          refine fin ?_
          rw [hbody]
          intro Q2 hq2
          rw [← k4]
          exact hg Q2 fun e st' c' a' h1 h2 h3 h4 => hq2 e st' c' a' h1 h2 (k3.trans h3) h4
        · cases k1
      · cases h
    · exact fin (ih.1 hla.block hr h)
  | loop body ih =>
    refine ⟨fun {R K r c st a} hla hr h => ?_, fun b hb => ?_⟩
    · exact loopK_goes (fun hr h => ih.1 hla.loop hr h) (fun hr => hr.norm tb.vars) hr (by unfold evCode at h; exact h)
    · injection hb with hb
      rw [← hb]
      exact ih.1
  | exit id => exact ⟨fun {R K r c st a} _ hr h Q hq => wp_exit (hq (.exit id) st c a h hr (Step.refl c) (Kp.refl _ _)), fun _ h => (by cases h)⟩
  | ret => exact ⟨fun {R K r c st a} _ hr h Q hq => wp_ret (hq .ret st c a h hr (Step.refl c) (Kp.refl _ _)), fun _ h => (by cases h)⟩
  | rangeFunc f ps x y _ _ => exact ⟨fun {R K r c st a} _ hr h => (by simp [evCode] at h), fun _ h => (by cases h)⟩
  | scope x _ => exact ⟨fun {R K r c st a} _ hr h => (by simp [evCode] at h), fun _ h => (by cases h)⟩
  | label l => exact ⟨fun {R K r c st a} _ hr h => (by simp [evCode] at h), fun _ h => (by cases h)⟩
  | goto l => exact ⟨fun {R K r c st a} _ hr h => (by simp [evCode] at h), fun _ h => (by cases h)⟩
  | refuse why => exact ⟨fun {R K r c st a} _ hr h => (by simp [evCode] at h), fun _ h => (by cases h)⟩

theorem evCode_goes (htb : tb.ok P) (code : Code) (hla : LpAll tb code) {K : Ex → St → Option R} {r : R} {c : Cx} {st : St} {a : Act} (hr : Rel c st a.tmps) (h : evCode tb code st K = some r) : CodeGoes P tb.fixed code c a K r :=
  (evCode_goes2 htb code).1 hla hr h

end
end Go.Proofs.Ytdacfaincamliaa.Ev
