/- The evaluator's runs through operations and code are true of the machine. Conditions: none. -/
import Derived.Test.YtaehbfaldofmbaaEvShape
namespace Go.Proofs.Ytaehbfaldofmbaa.Ev
open Go Go.RowKit

section
variable {P : Program} {R : Type} {tb : Tb}

/-- A callee's contract is so. -/
structure Con.ok (P : Program) (f : FuncId) (con : Con) : Prop where
  enters : ∀ args w, (callFunc f args).run P w = .ok (.enter f args) w
  goes : ∀ {R : Type} (lim : Option (List Nat)) (K : AV → St → Option R) (r : R) (vs : List V1) (args : Array Value) (c : Cx) (st : St) (tmps : Array Value), con.run lim vs st K = some r → Rel c st tmps → All2 (v1Rel c) vs args.toList →
    Calls P f args c.w fun e w' => ∃ v st' c' y, e = .returned y ∧ K v st' = some r ∧ Rel c' st' tmps ∧ avRel c' v y ∧ Step c c' ∧ (∀ M, lim = some M ∨ con.mu = [] → TameM false M c c') ∧ c'.w = w'

structure Tb.ok (P : Program) (tb : Tb) : Prop where
  mixed : P.follows .mixedOrders = true
  ok0 : tb.ok0 P
  con : ∀ f con, tb.con f = some con → Con.ok P f con

variable {c : Cx} {st : St} {a : Act} {o : Oper} {K : AV → St → Option R} {r : R}

theorem allV1_rel (hr : Rel c st a.tmps) : ∀ {xs : List Operand} {vs : List V1}, allV1 (xs.map st.ev) = some vs → All2 (v1Rel c) vs (xs.map a.eval)
  | [], vs, h => by simp [allV1] at h; subst h; trivial
  | x :: xs, vs, h => by
    simp only [List.map_cons] at h ⊢
    have hx := hr.ev x
    generalize st.ev x = v at h hx
    cases v with
    | one v =>
      simp only [allV1] at h
      cases hv : allV1 (xs.map st.ev) with
      | none => rw [hv] at h; cases h
      | some vs' =>
        rw [hv] at h
        injection h with h
        subst h
        exact ⟨hx, allV1_rel hr hv⟩
    | tup _ => simp [allV1] at h
    | fn _ _ => simp [allV1] at h
    | dead => simp [allV1] at h

/-- An operation goes as the evaluator says, and leaves what was as it was but for what M owns. -/
def OpGoesM (P : Program) (o : Oper) (c : Cx) (a : Act) (K : AV → St → Option R) (r : R) (ap : Bool) (M : List Nat) : Prop :=
  ∀ (next : Act → World → Prop) (Q : Exit → Act → World → Prop),
    (∀ v y c' st', K v st' = some r → Rel c' st' a.tmps → avRel c' v y → Step c c' → TameM ap M c c' → next (a.put o.dst y) c'.w) → o.wp P a c.w next Q
theorem OpGoesT.toM {ap : Bool} {M : List Nat} (h : OpGoesT P o c a K r ap) : OpGoesM P o c a K r ap M := fun next Q hn => h next Q fun v y c' st' h1 h2 h3 h4 h5 => hn v y c' st' h1 h2 h3 h4 (h5 M)
theorem OpGoesM.goes {ap : Bool} {M : List Nat} (h : OpGoesM P o c a K r ap M) : OpGoes P o c a K r := fun next Q hn => h next Q fun v y c' st' h1 h2 h3 h4 _ => hn v y c' st' h1 h2 h3 h4

theorem goes_call {ap : Bool} (htb : tb.ok P) {f : FuncId} {args : Array Operand} {types : Array TypeId} (ho : o.op = .call { callee := .value (.func f), args := args, argTypes := types }) (hr : Rel c st a.tmps)
    {con : Con} (hc : tb.con f = some con) {vs : List V1} (hv : allV1 (args.toList.map st.ev) = some vs) {lim : Option (List Nat)} (h : con.run lim vs st K = some r) (next : Act → World → Prop) (Q : Exit → Act → World → Prop)
    (hn : ∀ v y c' st', K v st' = some r → Rel c' st' a.tmps → avRel c' v y → Step c c' → (∀ M, lim = some M ∨ con.mu = [] → TameM ap M c c') → next (a.put o.dst y) c'.w) : o.wp P a c.w next Q := by
  have hcon := htb.con _ _ hc
  have hrun : (execOp a.eval o).run P c.w = .ok (.enter f (args.map a.eval)) c.w := by
    unfold execOp
    simp [ho, resolve, Deferred.ofValue, Act.eval, invoke, hcon.enters]
  unfold Oper.wp
  rw [hrun, Oper.upon_enter]
  refine (hcon.goes lim K r vs (args.map a.eval) c st a.tmps h hr (by rw [Array.toList_map]; exact allV1_rel hr hv)).mono fun e w' hh => ?_
  obtain ⟨v, st', c', y, rfl, h1, h2, h3, h4, h5, rfl⟩ := hh
  exact hn v y c' st' h1 h2 h3 h4 fun M hM => (h5 M hM).weaken ap

/-- Each operation goes as the evaluator says. -/
theorem evOp_goes (htb : tb.ok P) (hr : Rel c st a.tmps) (h : evOp tb o st K = some r) : OpGoes P o c a K r := by
  have h00 := h
  unfold evOp at h
  split at h
  · exact (goes_move (.inl (by assumption)) hr h).goes hr
  · exact (goes_move (.inr (by assumption)) hr h).goes hr
  · exact (goes_pick (by assumption) hr h).goes hr
  · exact (goes_alloc htb.ok0 (by assumption) hr h (ap := false)).goes
  · exact (goes_box (by assumption) hr h (ap := false)).goes
  · exact (goes_build htb.ok0 (by assumption) hr h).goes hr
  · exact (goes_buildSlice htb.ok0 (by assumption) hr h (ap := false)).goes
  · exact (goes_load htb.ok0 (by assumption) hr h).goes hr
  · exact goes_store htb.ok0 (by assumption) hr h
  · exact (goes_nilCheck (by assumption) hr h).goes hr
  · exact (goes_binOp htb.ok0 (by assumption) hr h).goes hr
  · exact (goes_unOp (by assumption) hr h).goes hr
  · exact (goes_convert htb.ok0 (by assumption) hr h).goes hr
  · exact (goes_makeSlice htb.ok0 (by assumption) hr h (ap := false)).goes
  · exact (goes_fieldAddr htb.ok0 (by assumption) hr h).goes hr
  · exact (goes_indexAddr htb.ok0 (by assumption) hr h).goes hr
  · exact (goes_extract (by assumption) hr h).goes hr
  · rename_i cl hop
    obtain ⟨callee, args, types⟩ := cl
    simp only at h
    split at h
    · rename_i b
      unfold evCallB at h
      split at h
      · rename_i x t h1 h2
        have e1 : args = #[x] := by apply Array.ext'; simpa using h1
        have e2 : types = #[t] := by apply Array.ext'; simpa using h2
        subst e1
        subst e2
        exact (goes_len htb.ok0 hop hr (by unfold evCallB; exact h)).goes hr
      · rename_i s x t t' h1 h2
        have e1 : args = #[s, x] := by apply Array.ext'; simpa using h1
        have e2 : types = #[t, t'] := by apply Array.ext'; simpa using h2
        subst e1
        subst e2
        exact (goes_append htb.ok0 hop hr (by unfold evCallB; exact h)).goes
      · rename_i x y h1
        have e1 : args = #[x, y] := by apply Array.ext'; simpa using h1
        subst e1
        exact (goes_minmax (mx := true) hop hr h).goes hr
      · rename_i x y h1
        have e1 : args = #[x, y] := by apply Array.ext'; simpa using h1
        subst e1
        exact (goes_minmax (mx := false) hop hr h).goes hr
      · cases h
    · rename_i f
      split at h
      · rename_i con vs hc hv
        exact fun next Q hn => goes_call (ap := false) htb hop hr hc hv h next Q fun v y c' st' h1 h2 h3 h4 _ => hn v y c' st' h1 h2 h3 h4
      · cases h
    · cases h
  · cases h

theorem put_defers (a : Act) (d : Option Tmp) (v : Value) : (a.put d v).defers = a.defers := by cases d <;> rfl

def dstOk (fixed : List Nat) (o : Oper) : Prop := ∀ d, o.dst = some d → d ∉ fixed
/-- What stays in the variables. -/
def Kp (fixed : List Nat) (a' a : Act) : Prop := a'.defers = a.defers ∧ ∀ s, s ∈ fixed → a'.tmps.getD s undef = a.tmps.getD s undef
theorem Kp.refl (fixed : List Nat) (a : Act) : Kp fixed a a := ⟨rfl, fun _ _ => rfl⟩
theorem Kp.trans {fixed : List Nat} {a b c : Act} (h : Kp fixed a b) (k : Kp fixed b c) : Kp fixed a c := ⟨h.1.trans k.1, fun s hs => (h.2 s hs).trans (k.2 s hs)⟩
theorem Kp.put {fixed : List Nat} {o : Oper} (h : dstOk fixed o) (a : Act) (v : Value) : Kp fixed (a.put o.dst v) a := by
  refine ⟨put_defers _ _ _, fun s hs => ?_⟩
  cases hd : o.dst with
  | none => rfl
  | some d =>
    have hne : d ≠ s := fun e => h d hd (e ▸ hs)
    simp only [Act.put, Array.getD_eq_getD_getElem?, Array.getElem?_setIfInBounds]
    rw [if_neg hne]
theorem fixOk_region {fixed : List Nat} {id : Nat} {ops : Array Oper} {draw : Bool} (h : fixOk fixed (.region id ops draw) = true) : ∀ o, o ∈ ops.toList → dstOk fixed o := by
  intro o ho d hd
  have := List.all_eq_true.mp h o ho
  rw [hd] at this
  simpa using this
theorem undef_rel (c : Cx) : avRel c .undef undef := ⟨#[], rfl, trivial⟩

theorem put_same (hr : Rel c st a.tmps) {d : Nat} {v : AV} (hv : st.env[d]? = some v) : Rel c (st.put (some d) v) a.tmps := by
  refine ⟨hr.s, ?_⟩
  show All2 _ (st.env.set d v) _
  have : st.env.set d v = st.env := by
    apply List.ext_getElem?
    intro i
    rw [List.getElem?_set]
    split
    · rename_i h
      subst h
      split
      · rw [hv]
      · rename_i h2
        rw [List.getElem?_eq_none (by omega)] at hv
        cases hv
    · rfl
  rw [this]
  exact hr.env

theorem evOps_goes (htb : tb.ok P) {ops : Array Oper} {Kc : St → Option R} {Q : Exit → Act → World → Prop} : ∀ {rest : List Oper} {a : Act} {c : Cx} {st : St}, (∀ o, o ∈ rest → dstOk tb.fixed o) → Rel c st a.tmps → evOps tb ops rest st Kc = some r →
    (∀ a' c' st', Kc st' = some r → Rel c' st' a'.tmps → Step c c' → Kp tb.fixed a' a → Q .normal a' c'.w) → wpList P ops Q rest a c.w
  | [], a, c, st, _, hr, h, hq => hq a c st h hr (Step.refl c) (Kp.refl _ _)
  | o :: rest, a, c, st, hfx, hr, h, hq => by
    have hfo := hfx o (by simp)
    have hfr : ∀ o, o ∈ rest → dstOk tb.fixed o := fun o ho => hfx o (by simp [ho])
    have run : ∀ {st1 : St}, Rel c st1 a.tmps → (evOp tb o st1 fun v st' => evOps tb ops rest (st'.put o.dst v) Kc) = some r → o.wp P a c.w (wpList P ops Q rest) Q := by
      intro st1 hr1 h1
      refine evOp_goes htb hr1 h1 _ _ fun v y c' st' h2 h3 h4 h5 => ?_
      refine evOps_goes htb hfr (h3.put (a := a) h4) h2 fun a' c2 st2 k1 k2 k3 k4 => ?_
      exact hq a' c2 st2 k1 k2 (h5.trans k3) (k4.trans (Kp.put hfo _ _))
    have skip : ∀ {st1 : St}, Rel c st1 a.tmps → evOps tb ops rest (st1.put o.dst .undef) Kc = some r → wpList P ops Q rest (a.put o.dst undef) c.w := by
      intro st1 hr1 h1
      refine evOps_goes htb hfr (hr1.put (a := a) (undef_rel c)) h1 fun a' c2 st2 k1 k2 k3 k4 => ?_
      exact hq a' c2 st2 k1 k2 k3 (k4.trans (Kp.put hfo _ _))
    unfold evOps at h
    unfold wpList
    split at h
    · rename_i hg
      rw [if_pos (by simp [Region.wanted, hg])]
      exact .inl (run hr h)
    · rename_i j want hg
      split at h
      · rename_i d hd
        have hy : ∀ v, st.env.getD d .dead = v → v ≠ .dead → st.env[d]? = some v ∧ ∃ y, a.tmps[d]? = some y ∧ avRel c v y := by
          intro v hv hne
          rw [List.getD_eq_getElem?_getD] at hv
          cases he : st.env[d]? with
          | none => rw [he] at hv; exact absurd hv.symm hne
          | some v' =>
            rw [he] at hv
            have hv' : v' = v := hv
            subst hv'
            obtain ⟨y, h1, h2⟩ := hr.env.get d v' he
            exact ⟨rfl, y, by simpa using h1, h2⟩
        split at h
        · rename_i b hv
          obtain ⟨he, y, hy1, hy2⟩ := hy _ hv (by simp)
          have hyb : y = .bool b := hy2.1
          have hw : Region.wanted o (yielded ops a.tmps) = (b == want) := by
            simp only [Region.wanted, hg, yielded, hd, Option.bind_some, hy1, hyb]
            cases b <;> cases want <;> rfl
          rw [hw]
          have hsame := put_same hr he
          cases b <;> cases want
          · exact .inl (run hsame h)
          · exact skip hsame h
          · exact skip hsame h
          · exact .inl (run hsame h)
        · rename_i hv
          obtain ⟨he, y, hy1, hy2⟩ := hy _ hv (by simp)
          obtain ⟨ws, hyw, _⟩ := hy2
          have hw : Region.wanted o (yielded ops a.tmps) = false := by
            simp only [Region.wanted, hg, yielded, hd, Option.bind_some, hy1, hyw]
            cases want <;> rfl
          rw [hw]
          exact skip hr h
        · cases h
      · cases h

/-! ### Regions that draw -/
/-- Operations that leave what was as it was. -/
theorem evOp_tame (htb : tb.ok P) {ap : Bool} (hok : tameOk tb ap o = true) (hr : Rel c st a.tmps) (h : evOp tb o st K = some r) : OpGoesT P o c a K r ap := by
  have h00 := h
  unfold evOp at h
  split at h
  · exact (goes_move (.inl (by assumption)) hr h).goesT hr ap
  · exact (goes_move (.inr (by assumption)) hr h).goesT hr ap
  · exact (goes_pick (by assumption) hr h).goesT hr ap
  · exact goes_alloc htb.ok0 (by assumption) hr h
  · exact goes_box (by assumption) hr h
  · exact (goes_build htb.ok0 (by assumption) hr h).goesT hr ap
  · exact goes_buildSlice htb.ok0 (by assumption) hr h
  · exact (goes_load htb.ok0 (by assumption) hr h).goesT hr ap
  · rename_i hop
    simp [tameOk, isPure, isLoad, hop] at hok
  · exact (goes_nilCheck (by assumption) hr h).goesT hr ap
  · exact (goes_binOp htb.ok0 (by assumption) hr h).goesT hr ap
  · exact (goes_unOp (by assumption) hr h).goesT hr ap
  · exact (goes_convert htb.ok0 (by assumption) hr h).goesT hr ap
  · exact goes_makeSlice htb.ok0 (by assumption) hr h
  · exact (goes_fieldAddr htb.ok0 (by assumption) hr h).goesT hr ap
  · exact (goes_indexAddr htb.ok0 (by assumption) hr h).goesT hr ap
  · exact (goes_extract (by assumption) hr h).goesT hr ap
  · rename_i cl hop
    obtain ⟨callee, args, types⟩ := cl
    simp only at h
    split at h
    · rename_i b
      unfold evCallB at h
      split at h
      · rename_i x t h1 h2
        have e1 : args = #[x] := by apply Array.ext'; simpa using h1
        have e2 : types = #[t] := by apply Array.ext'; simpa using h2
        subst e1
        subst e2
        exact (goes_len htb.ok0 hop hr (by unfold evCallB; exact h)).goesT hr ap
      · rename_i s x t t' h1 h2
        have e1 : args = #[s, x] := by apply Array.ext'; simpa using h1
        have e2 : types = #[t, t'] := by apply Array.ext'; simpa using h2
        subst e1
        subst e2
        have hap : ap = true := by simpa [tameOk, isPure, isLoad, hop] using hok
        rw [hap]
        exact goes_append htb.ok0 hop hr (by unfold evCallB; exact h)
      · rename_i x y h1
        have e1 : args = #[x, y] := by apply Array.ext'; simpa using h1
        subst e1
        exact (goes_minmax (mx := true) hop hr h).goesT hr ap
      · rename_i x y h1
        have e1 : args = #[x, y] := by apply Array.ext'; simpa using h1
        subst e1
        exact (goes_minmax (mx := false) hop hr h).goesT hr ap
      · cases h
    · rename_i f
      split at h
      · rename_i con vs hc hv
        have hmu : con.mu = [] := by
          have : tameCall tb f = true := by simpa [tameOk, isPure, isLoad, hop] using hok
          unfold tameCall at this
          rw [hc] at this
          simpa using this
        exact fun next Q hn => goes_call (ap := ap) htb hop hr hc hv h next Q fun v y c' st' h1 h2 h3 h4 h5 => hn v y c' st' h1 h2 h3 h4 fun M => h5 M (.inr hmu)
      · cases h
    · cases h
  · cases h

/-- Calls that write what M owns alone. -/
theorem evCallIn_goes (htb : tb.ok P) {ap : Bool} {M : List Nat} (hr : Rel c st a.tmps) (h : evCallIn tb M o st K = some r) : OpGoesM P o c a K r ap M := by
  unfold evCallIn at h
  split at h
  · rename_i cl hop
    obtain ⟨callee, args, types⟩ := cl
    simp only at h
    split at h
    · split at h
      · rename_i con vs hc hv
        exact fun next Q hn => goes_call (ap := ap) htb hop hr hc hv h next Q fun v y c' st' h1 h2 h3 h4 h5 => hn v y c' st' h1 h2 h3 h4 (h5 M (.inl rfl))
      · cases h
    · cases h
  · cases h

/-- Operations that yield their value in whatever world. -/
theorem evOp_pure (htb : tb.ok P) (hok : isPure o = true) (hr : Rel c st a.tmps) (h : evOp tb o st K = some r) : Quiet P o c a st K r := by
  unfold evOp at h
  split at h
  · exact goes_move (.inl (by assumption)) hr h
  · exact goes_move (.inr (by assumption)) hr h
  · exact goes_pick (by assumption) hr h
  · rename_i hop; simp [isPure, hop] at hok
  · rename_i hop; simp [isPure, hop] at hok
  · exact goes_build htb.ok0 (by assumption) hr h
  · rename_i hop; simp [isPure, hop] at hok
  · rename_i hop; simp [isPure, hop] at hok
  · rename_i hop; simp [isPure, hop] at hok
  · exact goes_nilCheck (by assumption) hr h
  · exact goes_binOp htb.ok0 (by assumption) hr h
  · exact goes_unOp (by assumption) hr h
  · exact goes_convert htb.ok0 (by assumption) hr h
  · rename_i hop; simp [isPure, hop] at hok
  · exact goes_fieldAddr htb.ok0 (by assumption) hr h
  · exact goes_indexAddr htb.ok0 (by assumption) hr h
  · exact goes_extract (by assumption) hr h
  · rename_i cl hop
    obtain ⟨callee, args, types⟩ := cl
    simp only at h
    split at h
    · rename_i b
      unfold evCallB at h
      split at h
      · rename_i x t h1 h2
        have e1 : args = #[x] := by apply Array.ext'; simpa using h1
        have e2 : types = #[t] := by apply Array.ext'; simpa using h2
        subst e1
        subst e2
        exact goes_len htb.ok0 hop hr (by unfold evCallB; exact h)
      · simp [isPure, hop] at hok
      · rename_i x y h1
        have e1 : args = #[x, y] := by apply Array.ext'; simpa using h1
        subst e1
        exact (goes_minmax (mx := true) hop hr h)
      · rename_i x y h1
        have e1 : args = #[x, y] := by apply Array.ext'; simpa using h1
        subst e1
        exact (goes_minmax (mx := false) hop hr h)
      · cases h
    · simp [isPure, hop] at hok
    · cases h
  · cases h

theorem evOp_load (htb : tb.ok P) (hok : isLoad o = true) (hr : Rel c st a.tmps) (h : evOp tb o st K = some r) : Loads P o c a st (loadRow o st) (loadId o st) K r := by
  unfold isLoad at hok
  split at hok
  · rename_i t p hop
    have h1 : evLoad tb t (st.ev p) st (fun v => K v st) = some r := by
      unfold evOp at h
      rw [hop] at h
      exact h
    have := goes_load htb.ok0 hop hr h1
    unfold loadRow loadId
    rw [hop]
    exact this
  · cases hok

section
variable {ops : Array Oper} {Q : Exit → Act → World → Prop} {md : Region.Mode} {S S' : World → Prop} {late : Nat → Bool}

/-- Whatever order is picked, and S holds behind each operation that is not late. -/
def wpAnyD (P : Program) (md : Region.Mode) (ops : Array Oper) (Q : Exit → Act → World → Prop) (S : World → Prop) (late : Nat → Bool) : Nat → Array Bool → Act → World → Prop
  | 0, listed, a, w => Region.ready md ops listed = [] ∧ Q .normal a w
  | fuel + 1, listed, a, w =>
    (Region.ready md ops listed = [] → Q .normal a w) ∧
    ∀ i ∈ Region.ready md ops listed, wpOp P ops Q i (fun a' w' => (late i = false → S w') ∧ wpAnyD P md ops Q S late fuel (listed.setIfInBounds i true) a' w') a w

theorem wpAny_of_D : ∀ (fuel : Nat) (listed : Array Bool) (a : Act) (w : World), wpAnyD P md ops Q S late fuel listed a w → wpAny P md ops Q fuel listed a w
  | 0, _, _, _, h => h
  | fuel + 1, _, _, _, h => ⟨h.1, fun i hi => wpOp_mono (fun a' w' h' => wpAny_of_D fuel _ a' w' h'.2) (h.2 i hi)⟩

theorem wpAnyD_mono (hS : ∀ w, S w → S' w) : ∀ (fuel : Nat) (listed : Array Bool) (a : Act) (w : World), wpAnyD P md ops Q S late fuel listed a w → wpAnyD P md ops Q S' late fuel listed a w
  | 0, _, _, _, h => h
  | fuel + 1, _, _, _, h => ⟨h.1, fun i hi => wpOp_mono (fun a' w' h' => ⟨fun hl => hS w' (h'.1 hl), wpAnyD_mono hS fuel _ a' w' h'.2⟩) (h.2 i hi)⟩

theorem unlisted_set {listed : Array Bool} {i j : Nat} (h : (listed.setIfInBounds i true).getD j true = false) : listed.getD j true = false := by
  by_cases hij : i = j
  · subst hij
    simp only [Array.getD_eq_getD_getElem?, Array.getElem?_setIfInBounds_self] at h
    split at h <;> simp at h
  · rwa [getD_set_ne true hij] at h

theorem wpAnyD_late : ∀ (fuel : Nat) (listed : Array Bool) (a : Act) (w : World), (∀ j o, ops[j]? = some o → listed.getD j true = false → late j = true) → wpAnyD P md ops Q S late fuel listed a w → wpAnyD P md ops Q S' late fuel listed a w
  | 0, _, _, _, _, h => h
  | fuel + 1, listed, _, _, hl, h => ⟨h.1, fun i hi => by
    obtain ⟨hu, o, ho, _⟩ := mem_ready.1 hi
    have hlt := hl i o ho hu
    exact wpOp_mono (fun a' w' h' => ⟨fun h0 => (by rw [hlt] at h0; cases h0), wpAnyD_late fuel _ a' w' (fun j o hj hun => hl j o hj (unlisted_set hun)) h'.2⟩) (h.2 i hi)⟩

/-- An operation that may come up now may be taken first. -/
theorem wpAnyD_first {S0 : World → Prop} (hSS : ∀ w, S w → S0 w) {i : Nat} {oi : Oper} {v : Value} (hi : ops[i]? = some oi) (hsel : ∀ (j : Nat) (o : Oper) cs b, ops[j]? = some o → o.op ≠ .select cs b)
    (hQ : ∀ c a w, Q (.panic c) (a.put oi.dst v) w → Q (.panic c) a w) :
    ∀ (fuel : Nat) (listed : Array Bool) (a : Act) (w : World),
      (∀ j oj, ops[j]? = some oj → j ≠ i → listed.getD j true = false → (∀ e ∈ oj.after, Region.binds md e = true → e.on ≠ i) → oi.apart ops oj = true) →
      (S w ∧ (∀ j oj, ops[j]? = some oj → j ≠ i → listed.getD j true = false → late j = true → ∃ e ∈ oj.after, Region.binds md e = true ∧ e.on = i)) ∨ (late i = true ∧ ∀ w, S0 w) →
      i ∈ Region.ready md ops listed → YieldsIf P ops S0 oi v a →
      wpAnyD P md ops Q S late fuel (listed.setIfInBounds i true) (a.put oi.dst v) w → wpAnyD P md ops Q S late (fuel + 1) listed a w := by
  intro fuel
  induction fuel with
  | zero =>
    intro listed a w _ hS hr hy H
    refine ⟨fun h => (by rw [h] at hr; cases hr), fun j hj => ?_⟩
    by_cases hji : j = i
    · subst hji
      rcases hS with ⟨h1, _⟩ | ⟨h1, h2⟩
      · exact hy.wpOp hi (hSS w h1) ⟨fun _ => h1, H⟩
      · exact hy.wpOp hi (h2 w) ⟨fun h0 => (by rw [h1] at h0; cases h0), H⟩
    · have := ready_mono hj hji
      rw [H.1] at this
      cases this
  | succ fuel ih =>
    intro listed a w hfree hS hr hy H
    refine ⟨fun h => (by rw [h] at hr; cases hr), fun j hj => ?_⟩
    by_cases hji : j = i
    · subst hji
      rcases hS with ⟨h1, _⟩ | ⟨h1, h2⟩
      · exact hy.wpOp hi (hSS w h1) ⟨fun _ => h1, H⟩
      · exact hy.wpOp hi (h2 w) ⟨fun h0 => (by rw [h1] at h0; cases h0), H⟩
    · have h1 := H.2 j (ready_mono hj hji)
      obtain ⟨hjun, oj, hoj, hall⟩ := mem_ready.1 hj
      have hnot : ∀ e ∈ oj.after, Region.binds md e = true → e.on ≠ i := fun e he hb heq => by
        have h1 := hall e he hb
        have h0 := (mem_ready.1 hr).1
        rw [heq] at h1
        rcases Nat.lt_or_ge i listed.size with h' | h'
        · simp [h'] at h0 h1; rw [h0] at h1; cases h1
        · simp [Array.getElem?_eq_none h'] at h1
      have h2 := wpOp_putIf hoj (hfree j oj hoj hji hjun hnot) (fun cs b => hsel i oi cs b hi) (fun cs b => hsel j oj cs b hoj) hQ hy h1
      have hfree' : ∀ k ok, ops[k]? = some ok → k ≠ i → (listed.setIfInBounds j true).getD k true = false →
          (∀ e ∈ ok.after, Region.binds md e = true → e.on ≠ i) → oi.apart ops ok = true := fun k ok hk hki hun hno =>
        hfree k ok hk hki (unlisted_set hun) hno
      refine wpOp_mono (fun a' w' h3 => ⟨h3.2.1, ih (listed.setIfInBounds j true) a' w' hfree' ?_ (ready_mono hr (Ne.symm hji)) h3.1 ?_⟩) h2
      · rcases hS with ⟨hS1, hS2⟩ | hS
        · have hlj : late j = false := by
            cases hl : late j with
            | false => rfl
            | true =>
              obtain ⟨e, he, hb, hon⟩ := hS2 j oj hoj hji hjun hl
              exact absurd hon (hnot e he hb)
          exact .inl ⟨h3.2.1 hlj, fun k ok hk hki hun hl => hS2 k ok hk hki (unlisted_set hun) hl⟩
        · exact .inr hS
      · rw [Array.setIfInBounds_comm _ _ hji]
        exact h3.2.2
end

/-- The worlds in which what was is as it was, but for what M owns. -/
def Sc (ap : Bool) (M : List Nat) (c : Cx) (w : World) : Prop := c.w.heap.size ≤ w.heap.size ∧ ∀ k, k < c.w.heap.size → (ap = true → ∀ i, i ∈ c.D → (c.ρ i).ownBlock ≠ some k) → (∀ i, i ∈ M → i ∈ c.D → blk (c.ρ i) ≠ some k) → w.heap[k]? = c.w.heap[k]?

theorem Sc.refl (ap : Bool) (M : List Nat) (c : Cx) : Sc ap M c c.w := ⟨Nat.le_refl _, fun _ _ _ _ => rfl⟩
theorem Sc.of_tame {ap : Bool} {M : List Nat} {c c' : Cx} (h : TameM ap M c c') {w : World} (hS : Sc ap M c' w) : Sc ap M c w :=
  ⟨Nat.le_trans h.size hS.1, fun k hk hr hm => (hS.2 k (Nat.lt_of_lt_of_le hk h.size) (fun hap i hi hb => by
    obtain ⟨j, h1, h2⟩ := h.rows i hi k hb hk
    exact hr hap j h1 h2) (fun i hM hi hb => by
    obtain ⟨j, h1, h2, h3⟩ := h.mu i hM hi k hb hk
    exact hm j h1 h2 h3)).trans (h.old k hk hr hm)⟩

theorem guarded_some {ops : Array Oper} {yes no : St → Option R} (hr : Rel c st a.tmps) (h : guarded ops o st yes no = some r) :
    (∃ st1, Rel c st1 a.tmps ∧ Region.wanted o (yielded ops a.tmps) = true ∧ yes st1 = some r) ∨ (∃ st1, Rel c st1 a.tmps ∧ Region.wanted o (yielded ops a.tmps) = false ∧ no st1 = some r) := by
  unfold guarded at h
  split at h
  · rename_i hg
    exact .inl ⟨st, hr, by simp [Region.wanted, hg], h⟩
  · rename_i j want hg
    split at h
    · rename_i d hd
      have hy : ∀ v, st.env.getD d .dead = v → v ≠ .dead → st.env[d]? = some v ∧ ∃ y, a.tmps[d]? = some y ∧ avRel c v y := by
        intro v hv hne
        rw [List.getD_eq_getElem?_getD] at hv
        cases he : st.env[d]? with
        | none => rw [he] at hv; exact absurd hv.symm hne
        | some v' =>
          rw [he] at hv
          have hv' : v' = v := hv
          subst hv'
          obtain ⟨y, h1, h2⟩ := hr.env.get d v' he
          exact ⟨rfl, y, by simpa using h1, h2⟩
      split at h
      · rename_i b hv
        obtain ⟨he, y, hy1, hy2⟩ := hy _ hv (by simp)
        have hyb : y = .bool b := hy2.1
        have hw : Region.wanted o (yielded ops a.tmps) = (b == want) := by
          simp only [Region.wanted, hg, yielded, hd, Option.bind_some, hy1, hyb]
          cases b <;> cases want <;> rfl
        rw [hw]
        have hsame := put_same hr he
        cases b <;> cases want
        · exact .inl ⟨_, hsame, rfl, h⟩
        · exact .inr ⟨_, hsame, rfl, h⟩
        · exact .inr ⟨_, hsame, rfl, h⟩
        · exact .inl ⟨_, hsame, rfl, h⟩
      · rename_i hv
        obtain ⟨he, y, hy1, hy2⟩ := hy _ hv (by simp)
        obtain ⟨ws, hyw, _⟩ := hy2
        have hw : Region.wanted o (yielded ops a.tmps) = false := by
          simp only [Region.wanted, hg, yielded, hd, Option.bind_some, hy1, hyw]
          cases want <;> rfl
        exact .inr ⟨st, hr, hw, h⟩
      · cases h
    · cases h

theorem find_mem {α : Type} {p : α → Bool} {l : List α} {x : α} (h : l.find? p = some x) : x ∈ l ∧ p x = true := ⟨List.mem_of_find?_eq_some h, List.find?_some h⟩

theorem lateWait_spec {ops : Array Oper} {listed : Array Bool} {i : Nat} (h : lateWait ops listed i = true) (j : Nat) (oj : Oper) (hj : ops[j]? = some oj) (hne : j ≠ i) (hun : listed.getD j true = false) (hl : lateOp ops j = true) :
    ∃ e ∈ oj.after, Region.binds .any e = true ∧ e.on = i := by
  have hlt : j < ops.size := (Array.getElem?_eq_some_iff.1 hj).1
  have := List.all_eq_true.mp h j (List.mem_range.mpr hlt)
  simp only [Bool.or_eq_true, beq_iff_eq, hne, hun, hl, Bool.not_true, Bool.false_eq_true, or_false, false_or] at this
  unfold waits at this
  rw [hj] at this
  obtain ⟨k, hk, hk2⟩ := Array.any_eq_true.mp this
  simp only [Bool.and_eq_true, beq_iff_eq] at hk2
  exact ⟨_, Array.getElem_mem hk, hk2.1, hk2.2⟩

theorem allLate_spec {ops : Array Oper} {listed : Array Bool} (h : allLate ops listed = true) (j : Nat) (oj : Oper) (hj : ops[j]? = some oj) (hun : listed.getD j true = false) : lateOp ops j = true := by
  have hlt : j < ops.size := (Array.getElem?_eq_some_iff.1 hj).1
  have := List.all_eq_true.mp h j (List.mem_range.mpr hlt)
  simpa [hun] using this

theorem opMem {ops : Array Oper} {i : Nat} {o : Oper} (h : ops[i]? = some o) : o ∈ ops.toList := by
  obtain ⟨hlt, rfl⟩ := Array.getElem?_eq_some_iff.mp h
  simp

theorem evAny_goes (htb : tb.ok P) {ops : Array Oper} {ap : Bool} {Kc : St → Option R} {Q : Exit → Act → World → Prop} (hp : ∀ ch a w, ¬ Q (.panic ch) a w) (hsel : Region.noSelect ops = true) {M : List Nat} (hfx : ∀ o, o ∈ ops.toList → dstOk tb.fixed o) : ∀ {fuel : Nat} {listed : Array Bool} {a : Act} {c : Cx} {st : St}, Rel c st a.tmps → evAny tb ops ap M fuel listed st Kc = some r →
    (∀ a' c' st', Kc st' = some r → Rel c' st' a'.tmps → Step c c' → Kp tb.fixed a' a → Q .normal a' c'.w) → wpAnyD P .any ops Q (Sc ap M c) (lateOp ops) fuel listed a c.w
  | 0, listed, a, c, st, hr, h, hq => by
    unfold evAny at h
    split at h
    · rename_i hrd
      exact ⟨hrd, hq a c st h hr (Step.refl c) (Kp.refl _ _)⟩
    · cases h
  | fuel + 1, listed, a, c, st, hr, h, hq => by
    unfold evAny at h
    split at h
    · rename_i hrd
      exact ⟨fun _ => hq a c st h hr (Step.refl c) (Kp.refl _ _), by rw [hrd]; simp⟩
    · rename_i i0 more hrd
      split at h
      · rename_i i hfind
        obtain ⟨hmem, hpi⟩ := find_mem hfind
        rw [← hrd] at hmem
        simp only [Bool.and_eq_true, Bool.or_eq_true] at hpi
        obtain ⟨⟨_, hfree⟩, hlw⟩ := hpi
        split at h
        · rename_i o hi
          have hfo := hfx o (opMem hi)
          have hS : ∀ {S0 : World → Prop}, (lateWait ops listed i = true ∨ ∀ w, S0 w) → (Sc ap M c c.w ∧ (∀ j oj, ops[j]? = some oj → j ≠ i → listed.getD j true = false → lateOp ops j = true → ∃ e ∈ oj.after, Region.binds .any e = true ∧ e.on = i)) ∨ (lateOp ops i = true ∧ ∀ w, S0 w) := by
            intro S0 h0
            by_cases hw : lateWait ops listed i = true
            · exact .inl ⟨Sc.refl ap M c, lateWait_spec hw⟩
            · rcases hlw with hl | hl
              · exact .inr ⟨hl, h0.resolve_left hw⟩
              · exact absurd hl hw
          rcases guarded_some hr h with ⟨st1, hr1, hwt, h1⟩ | ⟨st1, hr1, hwt, h1⟩
          · split at h1
            · rename_i hcond
              have step : ∀ {S0 : World → Prop} {v : AV} {y : Value}, (∀ w, Sc ap M c w → S0 w) → (lateWait ops listed i = true ∨ ∀ w, S0 w) → (∀ w, S0 w → (execOp a.eval o).run P w = .ok (.value y) w) → evAny tb ops ap M fuel (listed.setIfInBounds i true) (st1.put o.dst v) Kc = some r → avRel c v y → wpAnyD P .any ops Q (Sc ap M c) (lateOp ops) (fuel + 1) listed a c.w := by
                intro S0 v y hSS h0 hrun h2 hv
                refine wpAnyD_first (S0 := S0) hSS hi (Region.noSelect_spec hsel) (fun ch _ _ hh => absurd hh (hp ch _ _)) fuel listed a c.w (Region.free_spec hi hfree) (hS h0) hmem (.inl ⟨hwt, hrun⟩) ?_
                exact evAny_goes htb hp hsel hfx (hr1.put (a := a) hv) h2 fun a' c' st' k1 k2 k3 k4 => hq a' c' st' k1 k2 k3 (k4.trans (Kp.put hfo _ _))
              by_cases hpure : isPure o = true
              · obtain ⟨v, y, hrun, h2, hv⟩ := evOp_pure htb hpure hr1 h1
                exact step (S0 := fun _ => True) (fun _ _ => trivial) (.inr fun _ => trivial) (fun w _ => hrun w) h2 hv
              · simp only [hpure, Bool.false_eq_true, false_or, Bool.or_eq_true, Bool.and_eq_true, Bool.not_eq_true', Bool.and_eq_false_iff] at hcond
                obtain ⟨⟨⟨hload, hrow⟩, hout⟩, hlw2⟩ := hcond
                obtain ⟨v, y, b, hrun, h2, hv, hb, hnr, hno⟩ := evOp_load htb hload hr1 h1
                refine step (S0 := fun w => w.heap[b]? = c.w.heap[b]?) (fun w hSw => hSw.2 b hb (fun hap i' hi' hob => ?_) (fun i' hM' hi' hob => ?_)) (.inl hlw2) (fun w hw => hrun w hw) h2 hv
                rotate_left
                · refine hno i' hi' (fun e => ?_) hob
                  unfold loadOut at hout
                  rw [← e] at hout
                  simp [hM'] at hout
                have hrow' : loadRow o st1 = false := by
                  rcases hrow with h9 | h9
                  · rw [hap] at h9; cases h9
                  · exact h9
                have hi2 := hi'
                rw [hr1.s.ids] at hi2
                obtain ⟨e', he'⟩ := mem_ids hi2
                cases e' with
                | row e t xs => exact hnr hrow' i' e t xs he' (ownBlock_blk hob)
                | box t cells =>
                  obtain ⟨g, conc, h9, _⟩ := hr1.s.ent _ _ he'
                  rw [h9] at hob
                  cases hob
            · cases h1
          · refine wpAnyD_first (S0 := fun _ => True) (fun _ _ => trivial) hi (Region.noSelect_spec hsel) (v := undef) (fun ch _ _ hh => absurd hh (hp ch _ _)) fuel listed a c.w (Region.free_spec hi hfree) (hS (.inr fun _ => trivial)) hmem (.inr ⟨hwt, rfl⟩) ?_
            exact evAny_goes htb hp hsel hfx (hr1.put (a := a) (undef_rel c)) h1 fun a' c' st' k1 k2 k3 k4 => hq a' c' st' k1 k2 k3 (k4.trans (Kp.put hfo _ _))
        · cases h
      · split at h
        · split at h
          · rename_i o hi
            have hfo := hfx o (opMem hi)
            refine ⟨fun h0 => (by rw [hrd] at h0; cases h0), fun j hj => ?_⟩
            rw [hrd] at hj
            have hj0 : j = i0 := by simpa using hj
            subst hj0
            unfold wpOp
            simp only [hi]
            rcases guarded_some hr h with ⟨st1, hr1, hwt, h1⟩ | ⟨st1, hr1, hwt, h1⟩
            · rw [if_pos hwt]
              split at h1
              · refine .inl ?_
                refine evCallIn_goes (ap := ap) htb hr1 h1 _ _ fun v y c' st' k1 k2 k3 k4 k5 => ?_
                refine ⟨fun _ => Sc.of_tame k5 (Sc.refl ap M c'), wpAnyD_mono (fun w hw => Sc.of_tame k5 hw) _ _ _ _ (evAny_goes htb hp hsel hfx (k2.put (a := a) k3) k1 fun a' c2 st2 g1 g2 g3 g4 => ?_)⟩
                exact hq a' c2 st2 g1 g2 (k4.trans g3) (g4.trans (Kp.put hfo _ _))
              split at h1
              · rename_i hcond
                refine .inl ?_
                by_cases ht : tameOk tb ap o = true
                · refine (evOp_tame htb ht hr1 h1).toM (M := M) _ _ fun v y c' st' k1 k2 k3 k4 k5 => ?_
                  refine ⟨fun _ => Sc.of_tame k5 (Sc.refl ap M c'), wpAnyD_mono (fun w hw => Sc.of_tame k5 hw) _ _ _ _ (evAny_goes htb hp hsel hfx (k2.put (a := a) k3) k1 fun a' c2 st2 g1 g2 g3 g4 => ?_)⟩
                  exact hq a' c2 st2 g1 g2 (k4.trans g3) (g4.trans (Kp.put hfo _ _))
                · simp only [ht, Bool.false_eq_true, false_or, Bool.or_eq_true, Bool.and_eq_true] at hcond
                  refine evOp_goes htb hr1 h1 _ _ fun v y c' st' k1 k2 k3 k4 => ?_
                  refine ⟨fun h0 => (by rw [hcond.1] at h0; cases h0), wpAnyD_late (S := Sc ap M c') _ _ _ _ (allLate_spec hcond.2) (evAny_goes htb hp hsel hfx (k2.put (a := a) k3) k1 fun a' c2 st2 g1 g2 g3 g4 => ?_)⟩
                  exact hq a' c2 st2 g1 g2 (k4.trans g3) (g4.trans (Kp.put hfo _ _))
              · cases h1
            · rw [if_neg (by rw [hwt]; simp)]
              exact ⟨fun _ => Sc.refl ap M c, evAny_goes htb hp hsel hfx (hr1.put (a := a) (undef_rel c)) h1 fun a' c' st' k1 k2 k3 k4 => hq a' c' st' k1 k2 k3 (k4.trans (Kp.put hfo _ _))⟩
          · cases h
        · cases h

theorem Step.drew (c : Cx) : Step c { c with w := { c.w with drawn := c.w.drawn + 1 } } :=
  ⟨⟨rfl, rfl, rfl, Nat.le_refl _, fun _ _ => rfl⟩, fun _ _ => rfl, fun _ h => h, fun _ h => h, fun _ h => .inl h⟩
theorem Rel.drew {tmps : Array Value} (hr : Rel c st tmps) : Rel { c with w := { c.w with drawn := c.w.drawn + 1 } } st tmps := by
  have hl : ∀ l y, leafRel c l y → leafRel { c with w := { c.w with drawn := c.w.drawn + 1 } } l y := fun l y h =>
    leafRel.move (c := c) (c' := { c with w := { c.w with drawn := c.w.drawn + 1 } }) (fun _ _ => rfl) hr.s.sub (fun _ h => h) (fun _ h => h) (fun i _ hi => ⟨hi, rfl⟩) h
  refine ⟨⟨hr.s.ids, hr.s.nodup, fun i e he => ?_, hr.s.apart, hr.s.sub, hr.s.lt⟩, hr.env.mono fun _ _ => avRel.imp hl⟩
  have := (hr.s.ent i e he).move (c1 := { c with w := { c.w with drawn := c.w.drawn + 1 } }) (f := fun l => l) hl (fun _ _ => rfl) rfl (fun g _ => rfl) (fun g hg => (hr.s.ent i e he).notT hg)
  rwa [mapE_id (fun _ => rfl)] at this

/-! ### Code -/
def Ex.toExit : Ex → Exit
  | .normal => .normal
  | .exit id => .exit id
  | .ret => .ret

def CodeGoes (P : Program) (fx : List Nat) (code : Code) (c : Cx) (a : Act) (K : Ex → St → Option R) (r : R) : Prop :=
  ∀ Q : Exit → Act → World → Prop, (∀ e st' c' a', K e st' = some r → Rel c' st' a'.tmps → Step c c' → Kp fx a' a → Q e.toExit a' c'.w) → code.wp P Q a c.w

theorem least {p : Nat → Prop} : ∀ n, p n → ∃ m, p m ∧ ∀ k, p k → m ≤ k := by
  intro n
  induction n using Nat.strongRecOn with
  | _ n ih =>
    intro h
    by_cases hh : ∃ k, k < n ∧ p k
    · obtain ⟨k, hk, hp⟩ := hh
      exact ih k hk hp
    · exact ⟨n, h, fun k hk => Nat.le_of_not_lt fun hlt => hh ⟨k, hlt, hk⟩⟩

theorem wp_loop_n {code : Code} {Q : Exit → Act → World → Prop} (J : Nat → Act → World → Prop)
    (round : ∀ n a w, J n a w → code.wp P (Exit.then (fun a' w' => ∃ m, m < n ∧ J m a' w') Q) a w) {n : Nat} {a : Act} {w : World} (h : J n a w) : (Code.loop code).wp P Q a w := by
  have hmin : ∀ a w, (∃ n, J n a w) → ∃ m, J m a w ∧ ∀ k, J k a w → m ≤ k := fun a w ⟨n, hn⟩ => least n hn
  refine wp_loop (fun a w => ∃ n, J n a w) (fun a w => Classical.epsilon fun m => J m a w ∧ ∀ k, J k a w → m ≤ k) ⟨n, h⟩ fun a w hI => ?_
  have hm := Classical.epsilon_spec (hmin a w hI)
  refine Code.wp_mono (fun e a' w' hq => ?_) (round _ a w hm.1)
  cases e with
  | normal =>
    obtain ⟨m, hlt, hJ⟩ := hq
    have hm' := Classical.epsilon_spec (hmin a' w' ⟨m, hJ⟩)
    exact ⟨⟨m, hJ⟩, Nat.lt_of_le_of_lt (hm'.2 m hJ) hlt⟩
  | _ => exact hq

theorem loopK_goes {body : St → (Ex → St → Option R) → Option R} {code : Code} {nrm : St → St} {K : Ex → St → Option R}
    (hb : ∀ {K : Ex → St → Option R} {c : Cx} {st : St} {a : Act}, Rel c st a.tmps → body st K = some r → CodeGoes P tb.fixed code c a K r)
    (hn : ∀ {c : Cx} {st : St} {tmps : Array Value}, Rel c st tmps → ∃ c', Rel c' (nrm st) tmps ∧ Step c c' ∧ c'.w = c.w)
    {n : Nat} {c : Cx} {st : St} {a : Act} (hr : Rel c st a.tmps) (h : loopK n body nrm K st = some r) : CodeGoes P tb.fixed (.loop code) c a K r := by
  intro Q hq
  refine wp_loop_n (fun n a' w' => ∃ c' st', loopK n body nrm K st' = some r ∧ Rel c' st' a'.tmps ∧ Step c c' ∧ Kp tb.fixed a' a ∧ c'.w = w') ?_ (n := n) ⟨c, st, h, hr, Step.refl c, Kp.refl _ _, rfl⟩
  rintro m a1 w1 ⟨c1, st1, h1, h2, h3, h4, rfl⟩
  cases m with
  | zero => cases h1
  | succ m =>
    obtain ⟨c2, k1, k2, k3⟩ := hn h2
    have := hb k1 (show body (nrm st1) _ = some r from h1)
    rw [← k3]
    refine this _ fun e st' c' a' g1 g2 g3 g4 => ?_
    cases e with
    | normal => exact ⟨m, Nat.lt_succ_self m, c', st', g1, g2, h3.trans (k2.trans g3), g4.trans h4, rfl⟩
    | exit id => exact hq (.exit id) st' c' a' g1 g2 (h3.trans (k2.trans g3)) (g4.trans h4)
    | ret => exact hq .ret st' c' a' g1 g2 (h3.trans (k2.trans g3)) (g4.trans h4)

theorem getOut_some {tmps : Array Value} : ∀ {os : List (Ex × List (Nat × LK))} {e : Ex} {st : St} {K : odens os → Option R}, getOut os e st K = some r → Rel c st tmps →
    ∃ o c', K o = some r ∧ Step c c' ∧ c'.w = c.w ∧ ∀ {R' : Type} {r' : R'} {K' : Ex → St → Option R'}, putOut st.env.length os o K' = some r' → ∃ st2, K' e st2 = some r' ∧ Rel c' st2 tmps
  | [], e, st, K, h, hr => by cases h
  | (e', sig) :: os, e, st, K, h, hr => by
    simp only [getOut] at h
    split at h
    · rename_i he
      subst he
      obtain ⟨x, c', h1, h2, h3, h4⟩ := reshape h hr
      exact ⟨.inl x, c', h1, h3, h4, fun hk => ⟨_, hk, h2⟩⟩
    · obtain ⟨o, c', h1, h2, h3, h4⟩ := getOut_some h hr
      exact ⟨.inr o, c', h1, h2, h3, fun hk => h4 hk⟩

def Goes (P : Program) (tb : Tb) (code : Code) : Prop :=
  ∀ {R : Type} {K : Ex → St → Option R} {r : R} {c : Cx} {st : St} {a : Act}, LpAll tb code → Rel c st a.tmps → evCode tb code st K = some r → CodeGoes P tb.fixed code c a K r

theorem lp_goes {body : Code} {l : Lp} (hb : Goes P tb body) (hla : LpAll tb body) (hl : LpOk tb body l) {K : Ex → St → Option R} {o : odens l.outs} {m : Nat} {x : sdens l.sig} {c : Cx} {a : Act}
    (hrun : l.run m x = some o) (hr : Rel c (putVals l.sig x (St.blank tb.n)) a.tmps) (hk : putOut tb.n l.outs o K = some r) : CodeGoes P tb.fixed (.loop body) c a K r := by
  intro Q hq
  refine wp_loop_n (fun m a' w' => ∃ c' x', l.run m x' = some o ∧ Rel c' (putVals l.sig x' (St.blank tb.n)) a'.tmps ∧ Step c c' ∧ Kp tb.fixed a' a ∧ c'.w = w') ?_ (n := m) ⟨c, x, hrun, hr, Step.refl c, Kp.refl _ _, rfl⟩
  rintro m a1 w1 ⟨c1, x1, h1, h2, h3, h4, rfl⟩
  cases m with
  | zero => rw [hl.1] at h1; cases h1
  | succ m =>
    rw [hl.2] at h1
    refine hb hla h2 h1 _ fun e st' c' a' g1 g2 g3 g4 => ?_
    split at g1
    · rename_i hlen
      have out : getOut l.outs e st' some = some o → Q e.toExit a' c'.w := by
        intro g1
        obtain ⟨o', c2, k1, k2, k3, k4⟩ := getOut_some g1 g2
        injection k1 with k1
        subst k1
        rw [hlen] at k4
        obtain ⟨st2, q1, q2⟩ := k4 hk
        rw [← k3]
        exact hq e st2 c2 a' q1 q2 (h3.trans (g3.trans k2)) (g4.trans h4)
      cases e with
      | normal =>
        obtain ⟨x2, c2, k1, k2, k3, k4⟩ := reshape g1 g2
        rw [hlen] at k2
        exact ⟨m, Nat.lt_succ_self m, c2, x2, k1, k2, h3.trans (g3.trans k3), g4.trans h4, k4⟩
      | exit id => exact out g1
      | ret => exact out g1
    · cases g1

theorem LpAll.seq {a b : Code} (h : LpAll tb (.seq a b)) : LpAll tb a ∧ LpAll tb b := by
  have hf := h.fx
  simp only [fixOk, Bool.and_eq_true] at hf
  exact ⟨⟨hf.1, fun p hp => h.lp p (List.mem_append_left _ hp), fun p hp => h.ct p (List.mem_cons_of_mem _ (List.mem_append_left _ hp))⟩, ⟨hf.2, fun p hp => h.lp p (List.mem_append_right _ hp), fun p hp => h.ct p (List.mem_cons_of_mem _ (List.mem_append_right _ hp))⟩⟩
theorem LpAll.cond {x : Operand} {a b : Code} (h : LpAll tb (.cond x a b)) : LpAll tb a ∧ LpAll tb b := by
  have hf := h.fx
  simp only [fixOk, Bool.and_eq_true] at hf
  exact ⟨⟨hf.1, fun p hp => h.lp p (List.mem_append_left _ hp), fun p hp => h.ct p (List.mem_append_left _ hp)⟩, ⟨hf.2, fun p hp => h.lp p (List.mem_append_right _ hp), fun p hp => h.ct p (List.mem_append_right _ hp)⟩⟩
theorem LpAll.block {id : Nat} {a : Code} (h : LpAll tb (.block id a)) : LpAll tb a := ⟨h.fx, fun p hp => h.lp p (List.mem_cons_of_mem _ hp), fun p hp => h.ct p hp⟩
theorem LpAll.loop {a : Code} (h : LpAll tb (.loop a)) : LpAll tb a := ⟨h.fx, fun p hp => h.lp p hp, fun p hp => h.ct p hp⟩

theorem evCode_goes2 (htb : tb.ok P) (code : Code) : Goes P tb code ∧ ∀ b, code = .loop b → Goes P tb b := by
  induction code with
  | skip => exact ⟨fun {R K r c st a} _ hr h Q hq => wp_skip (hq .normal st c a h hr (Step.refl c) (Kp.refl _ _)), fun _ h => (by cases h)⟩
  | region id ops draw =>
    refine ⟨fun {R K r c st a} hla hr h Q hq => ?_, fun _ h => (by cases h)⟩
    cases draw with
    | true =>
      simp only [evCode] at h
      split at h
      · rename_i hsel
        have hdr : Rel { c with w := { c.w with drawn := c.w.drawn + 1 } } st a.tmps := hr.drew
        let Q' : Exit → Act → World → Prop := fun e a w => match e with | .panic _ => False | e => Q e a w
        refine Code.wp_mono (Q := Q') (fun e a w hh => by cases e <;> first | exact hh | exact hh.elim) ?_
        refine wp_region_any htb.mixed (wpAny_of_D _ _ _ _ (evAny_goes (Q := Q') htb (fun _ _ _ hh => hh) hsel (fixOk_region hla.fx) hdr h fun a' c' st' h1 h2 h3 h4 => ?_))
        exact hq .normal st' c' a' h1 h2 (Step.trans (Step.drew c) h3) h4
      · cases h
    | false => exact wp_region_list (evOps_goes htb (fixOk_region hla.fx) hr h fun a' c' st' h1 h2 h3 h4 => hq .normal st' c' a' h1 h2 h3 h4)
  | seq x y ihx ihy =>
    refine ⟨fun {R K r c st a} hla hr h Q hq => ?_, fun _ h => (by cases h)⟩
    refine wp_seq (ihx.1 hla.seq.1 hr h _ fun e st' c' a' h1 h2 h3 h4 => ?_)
    cases e with
    | normal =>
      show Code.wp P y Q a' c'.w
      simp only at h1
      split at h1
      · rename_i ct hct
        split at h1
        · rename_i hn
          have hok := hla.ct (firstReg y, y) (by simp [seconds]) ct hct
          obtain ⟨x2, c1, k1, k2, k3, k4⟩ := reshape h1 h2
          split at k1
          · rename_i o ho
            rw [hn] at k2
            rw [hok] at ho
            rw [← k4]
            refine ihy.1 hla.seq.2 k2 ho _ fun e st2 c2 a2 g1 g2 g3 g4 => ?_
            split at g1
            · rename_i hlen
              obtain ⟨o', c3, q1, q2, q3, q4⟩ := getOut_some g1 g2
              injection q1 with q1
              subst q1
              rw [hlen] at q4
              obtain ⟨st3, m1, m2⟩ := q4 k1
              rw [← q3]
              exact hq e st3 c3 a2 m1 m2 (h3.trans (k3.trans (g3.trans q2))) (g4.trans h4)
            · cases g1
          · cases k1
        · cases h1
      · exact ihy.1 hla.seq.2 h2 h1 _ fun e st2 c2 a2 k1 k2 k3 k4 => hq e st2 c2 a2 k1 k2 (h3.trans k3) (k4.trans h4)
    | exit id => exact hq (.exit id) st' c' a' h1 h2 h3 h4
    | ret => exact hq .ret st' c' a' h1 h2 h3 h4
  | cond x y z ihy ihz =>
    refine ⟨fun {R K r c st a} hla hr h Q hq => ?_, fun _ h => (by cases h)⟩
    unfold evCode at h
    obtain ⟨b, hb, h⟩ := boolOf_some h
    have hx := hr.ev x
    rw [hb] at hx
    refine wp_cond (av_v hx) ?_
    cases b with
    | true => exact ihy.1 hla.cond.1 hr h _ hq
    | false => exact ihz.1 hla.cond.2 hr h _ hq
  | block id body ih =>
    refine ⟨fun {R K r c st a} hla hr h Q hq => ?_, fun _ h => (by cases h)⟩
    have fin : CodeGoes P tb.fixed body c a (fun e st' => match e with | .exit j => if j = id then K .normal st' else K (.exit j) st' | e => K e st') r → (Code.block id body).wp P Q a c.w := by
      intro hg
      refine wp_block (hg _ fun e st' c' a' h1 h2 h3 h4 => ?_)
      cases e with
      | normal => exact hq .normal st' c' a' h1 h2 h3 h4
      | exit j =>
        show Exit.inBlock id Q (.exit j) a' c'.w
        simp only [Exit.inBlock]
        simp only at h1
        split
        · rename_i hj; rw [if_pos hj] at h1; exact hq .normal st' c' a' h1 h2 h3 h4
        · rename_i hj; rw [if_neg hj] at h1; exact hq (.exit j) st' c' a' h1 h2 h3 h4
      | ret => exact hq .ret st' c' a' h1 h2 h3 h4
    unfold evCode at h
    split at h
    · rename_i l hl
      split at h
      · rename_i hn
        obtain ⟨b, hbody, hok⟩ := hla.lp (id, body) (by simp [blocks]) l hl
        simp only at hbody
        obtain ⟨x, c1, k1, k2, k3, k4⟩ := reshape h hr
        split at k1
        · rename_i o ho
          rw [hn] at k2
          have hlb : LpAll tb b := by
            have := hla.block
            rw [hbody] at this
            exact this.loop
          have hg := lp_goes (ih.2 b hbody) hlb hok ho k2 k1
          refine fin ?_
          rw [hbody]
          intro Q2 hq2
          rw [← k4]
          exact hg Q2 fun e st' c' a' h1 h2 h3 h4 => hq2 e st' c' a' h1 h2 (k3.trans h3) h4
        · cases k1
      · cases h
    · exact fin (ih.1 hla.block hr h)
  | loop body ih =>
    refine ⟨fun {R K r c st a} hla hr h => ?_, fun b hb => ?_⟩
    · exact loopK_goes (fun hr h => ih.1 hla.loop hr h) (fun hr => hr.norm tb.vars) hr (by unfold evCode at h; exact h)
    · injection hb with hb
      rw [← hb]
      exact ih.1
  | exit id => exact ⟨fun {R K r c st a} _ hr h Q hq => wp_exit (hq (.exit id) st c a h hr (Step.refl c) (Kp.refl _ _)), fun _ h => (by cases h)⟩
  | ret => exact ⟨fun {R K r c st a} _ hr h Q hq => wp_ret (hq .ret st c a h hr (Step.refl c) (Kp.refl _ _)), fun _ h => (by cases h)⟩
  | rangeFunc f ps x y _ _ => exact ⟨fun {R K r c st a} _ hr h => (by simp [evCode] at h), fun _ h => (by cases h)⟩
  | scope x _ => exact ⟨fun {R K r c st a} _ hr h => (by simp [evCode] at h), fun _ h => (by cases h)⟩
  | label l => exact ⟨fun {R K r c st a} _ hr h => (by simp [evCode] at h), fun _ h => (by cases h)⟩
  | goto l => exact ⟨fun {R K r c st a} _ hr h => (by simp [evCode] at h), fun _ h => (by cases h)⟩
  | refuse why => exact ⟨fun {R K r c st a} _ hr h => (by simp [evCode] at h), fun _ h => (by cases h)⟩

theorem evCode_goes (htb : tb.ok P) (code : Code) (hla : LpAll tb code) {K : Ex → St → Option R} {r : R} {c : Cx} {st : St} {a : Act} (hr : Rel c st a.tmps) (h : evCode tb code st K = some r) : CodeGoes P tb.fixed code c a K r :=
  (evCode_goes2 htb code).1 hla hr h

end
end Go.Proofs.Ytaehbfaldofmbaa.Ev
