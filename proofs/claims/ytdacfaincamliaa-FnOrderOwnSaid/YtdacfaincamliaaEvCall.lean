/- The evaluator's runs through operations and code are true of the machine. Conditions: none. -/
import Derived.Test.YtdacfaincamliaaEvShape
namespace Go.Proofs.Ytdacfaincamliaa.Ev
open Go Go.RowKit

section
variable {P : Program} {R : Type} {tb : Tb}

/-- A callee's contract is so. -/
structure Con.ok (P : Program) (f : FuncId) (con : Con) : Prop where
  enters : ∀ args w, (callFunc f args).run P w = .ok (.enter f args) w
  goes : ∀ {R : Type} (lim : Option (List Nat)) (K : AV → St → Option R) (r : R) (vs : List V1) (args : Array Value) (c : Cx) (st : St) (tmps : Array Value), con.run lim vs st K = some r → Rel c st tmps → All2 (v1Rel c) vs args.toList →
    Calls P f args c.w fun e w' => ∃ v st' c' y, e = .returned y ∧ K v st' = some r ∧ Rel c' st' tmps ∧ avRel c' v y ∧ Step c c' ∧ (∀ M, lim = some M ∨ con.mu = [] → TameM false M c c') ∧ c'.w = w'

structure Tb.ok (P : Program) (tb : Tb) : Prop where
  mixed : P.follows .mixedOrders = true
  ok0 : tb.ok0 P
  con : ∀ f con, tb.con f = some con → Con.ok P f con

variable {c : Cx} {st : St} {a : Act} {o : Oper} {K : AV → St → Option R} {r : R}

theorem allV1_rel (hr : Rel c st a.tmps) : ∀ {xs : List Operand} {vs : List V1}, allV1 (xs.map st.ev) = some vs → All2 (v1Rel c) vs (xs.map a.eval)
  | [], vs, h => by simp [allV1] at h; subst h; trivial
  | x :: xs, vs, h => by
    simp only [List.map_cons] at h ⊢
    have hx := hr.ev x
    generalize st.ev x = v at h hx
    cases v with
    | one v =>
      simp only [allV1] at h
      cases hv : allV1 (xs.map st.ev) with
      | none => rw [hv] at h; cases h
      | some vs' =>
        rw [hv] at h
        injection h with h
        subst h
        exact ⟨hx, allV1_rel hr hv⟩
    | tup _ => simp [allV1] at h
    | fn f caps =>
      cases caps with
      | cons _ _ => simp [allV1] at h
      | nil =>
        simp only [allV1] at h
        cases hv : allV1 (xs.map st.ev) with
        | none => rw [hv] at h; cases h
        | some vs' =>
          rw [hv] at h
          injection h with h
          subst h
          refine ⟨?_, allV1_rel hr hv⟩
          obtain ⟨cs, h1, h2⟩ := hx
          have : cs = #[] := by
            rcases cs with ⟨l⟩
            cases l with
            | nil => rfl
            | cons _ _ => exact h2.elim
          rw [this] at h1
          exact h1
    | dead => simp [allV1] at h

/-! ### Functions as values -/
theorem gather1_some {l : Leaf} {y : Value} {K' : (lt : Bool) → (t : Ty) → t.den → Option R} (h : gather1 l K' = some r) (hv : leafRel c l y) : ∃ lt t x, K' lt t x = some r ∧ RdE (c.S lt) t c.w x [y] := by
  unfold gather1 at h
  split at h
  · exact ⟨_, _, _, h, by rw [hv.1]; rfl⟩
  · exact ⟨_, _, _, h, by rw [hv.1]; rfl⟩
  · exact ⟨_, _, _, h, by rw [hv.1]; rfl⟩
  · rename_i lt e t xs
    obtain ⟨A, n, h1, h2, h3⟩ := hv
    exact ⟨_, _, _, h, A, n, by rw [h1], h2, h3⟩
  · cases h
theorem gather_some (hs : ∀ k, c.I k → c.T k) : ∀ {ls : List Leaf} {cs : List Value} {K' : (lt : Bool) → (t : Ty) → t.den → Option R}, gather ls K' = some r → All2 (leafRel c) ls cs → ∃ lt t x, K' lt t x = some r ∧ RdE (c.S lt) t c.w x cs
  | [], cs, K', h, ha => by cases h
  | [l], [y], K', h, ha => gather1_some h ha.1
  | [l], [], K', h, ha => ha.elim
  | [l], _ :: _ :: _, K', h, ha => ha.2.elim
  | l :: l' :: ls, [], K', h, ha => ha.elim
  | l :: l' :: ls, y :: cs, K', h, ha => by
    have h : gather1 l (fun lt t x => gather (l' :: ls) fun lt' t' y => K' (lt && lt') (.pair t t') (x, y)) = some r := h
    obtain ⟨lt, t, x, h1, h2⟩ := gather1_some h ha.1
    obtain ⟨lt', t', x', k1, k2⟩ := gather_some hs h1 ha.2
    have hS : ∀ b b' : Bool, (b' = true → b = true) → ∀ k, c.S b k → c.S b' k := by
      intro b b' hb k hk
      cases b' with
      | true => rw [hb rfl] at hk; exact hk
      | false =>
        cases b with
        | true => exact hs k hk
        | false => exact hk
    exact ⟨_, _, _, k1, [y], cs, rfl, h2.step (agree.refl _ _) (hS lt (lt && lt') (by simp; exact fun h _ => h)), k2.step (agree.refl _ _) (hS lt' (lt && lt') (by simp))⟩

theorem goes_call {ap : Bool} (htb : tb.ok P) {f : FuncId} {args : Array Operand} {types : Array TypeId} (ho : o.op = .call { callee := .value (.func f), args := args, argTypes := types }) (hr : Rel c st a.tmps)
    {con : Con} (hc : tb.con f = some con) {vs : List V1} (hv : allV1 (args.toList.map st.ev) = some vs) {lim : Option (List Nat)} (h : con.run lim vs st K = some r) (next : Act → World → Prop) (Q : Exit → Act → World → Prop)
    (hn : ∀ v y c' st', K v st' = some r → Rel c' st' a.tmps → avRel c' v y → Step c c' → (∀ M, lim = some M ∨ con.mu = [] → TameM ap M c c') → next (a.put o.dst y) c'.w) : o.wp P a c.w next Q := by
  have hcon := htb.con _ _ hc
  have hrun : (execOp a.eval o).run P c.w = .ok (.enter f (args.map a.eval)) c.w := by
    unfold execOp
    simp [ho, resolve, Deferred.ofValue, Act.eval, invoke, hcon.enters]
  unfold Oper.wp
  rw [hrun, Oper.upon_enter]
  refine (hcon.goes lim K r vs (args.map a.eval) c st a.tmps h hr (by rw [Array.toList_map]; exact allV1_rel hr hv)).mono fun e w' hh => ?_
  obtain ⟨v, st', c', y, rfl, h1, h2, h3, h4, h5, rfl⟩ := hh
  exact hn v y c' st' h1 h2 h3 h4 fun M hM => (h5 M hM).weaken ap

theorem goes_appendL (htb : tb.ok0 P) {M : List Nat} (hM : tb.deep = false ∨ ∀ id st', K (.lf (.own id)) st' = some r → id ∉ M) {args : Array Operand} {types : Array TypeId} (ho : o.op = .call { callee := .builtin .append, args := args, argTypes := types }) (hr : Rel c st a.tmps)
    (h : evCallB tb .append args.toList types.toList st K = some r) : OpGoesM P o c a K r true M := by
  have h0 := h
  unfold evCallB at h
  split at h
  · rename_i h1 _ _; cases h1
  · rename_i s x t t' _ h1 h2
    have e1 : args = #[s, x] := by apply Array.ext'; simpa using h1
    have e2 : types = #[t, t'] := by apply Array.ext'; simpa using h2
    subst e1
    subst e2
    exact goes_append htb hM ho hr h0
  · rename_i h1 _; cases h1
  · rename_i h1 _; cases h1
  · cases h

/-- What a builtin that is no append comes to. -/
theorem goes_builtin (htb : tb.ok0 P) {b : Builtin} (hb : b ≠ .append) {args : Array Operand} {types : Array TypeId} (hop : o.op = .call { callee := .builtin b, args := args, argTypes := types }) (hr : Rel c st a.tmps)
    (h : evCallB tb b args.toList types.toList st K = some r) : Quiet P o c a st K r := by
  unfold evCallB at h
  split at h
  · rename_i x t h1 h2
    have e1 : args = #[x] := by apply Array.ext'; simpa using h1
    have e2 : types = #[t] := by apply Array.ext'; simpa using h2
    subst e1
    subst e2
    exact goes_len htb hop hr (by unfold evCallB; exact h)
  · exact absurd rfl hb
  · rename_i x y h1
    have e1 : args = #[x, y] := by apply Array.ext'; simpa using h1
    subst e1
    exact goes_minmax (mx := true) hop hr h
  · rename_i x y h1
    have e1 : args = #[x, y] := by apply Array.ext'; simpa using h1
    subst e1
    exact goes_minmax (mx := false) hop hr h
  · cases h

/-- Each operation goes as the evaluator says. -/
theorem evOp_goes (htb : tb.ok P) (hr : Rel c st a.tmps) (h : evOp tb o st K = some r) : OpGoes P o c a K r := by
  have h00 := h
  unfold evOp at h
  split at h
  · exact (goes_move (.inl (by assumption)) hr h).goes hr
  · exact (goes_move (.inr (by assumption)) hr h).goes hr
  · exact (goes_pick (by assumption) hr h).goes hr
  · exact (goes_alloc htb.ok0 (by assumption) hr h (ap := false)).goes
  · exact (goes_box (by assumption) hr h (ap := false)).goes
  · exact (goes_build htb.ok0 (by assumption) hr h).goes hr
  · exact (goes_buildSlice htb.ok0 (by assumption) hr h (ap := false)).goes
  · exact (goes_load htb.ok0 (by assumption) hr h).goes hr
  · exact goes_store htb.ok0 (by assumption) hr h
  · exact (goes_nilCheck (by assumption) hr h).goes hr
  · exact (goes_binOp htb.ok0 (by assumption) hr h).goes hr
  · exact (goes_unOp (by assumption) hr h).goes hr
  · exact (goes_convert htb.ok0 (by assumption) hr h).goes hr
  · exact (goes_makeSlice htb.ok0 (by assumption) hr h (ap := false)).goes
  · exact (goes_fieldAddr htb.ok0 (by assumption) hr h).goes hr
  · exact (goes_indexAddr htb.ok0 (by assumption) hr h).goes hr
  · exact solid_goesA h hr fun hr' h' => (goes_slice (ap := false) htb.ok0 (by assumption) hr' h').goes
  · exact (goes_slice3 (ap := false) htb.ok0 (by assumption) hr h).goes
  · exact (goes_extract (by assumption) hr h).goes hr
  · exact (goes_field htb.ok0 (by assumption) hr h).goes hr
  · rename_i cl hop
    obtain ⟨callee, args, types⟩ := cl
    simp only at h
    split at h
    · exact solid_goesA h hr fun hr' h' => (goes_appendL (M := []) htb.ok0 (.inr fun _ _ _ h => by cases h) hop hr' h').goes
    · rename_i b hb
      exact (goes_builtin htb.ok0 (fun e => hb e) hop hr h).goes hr
    · rename_i f
      obtain ⟨st1, c1, g1, g2, g3⟩ := solid_someA h hr
      split at g1
      · rename_i con vs hc hv
        intro next Q hn
        rw [← g3.w]
        exact goes_call (ap := false) htb hop g2 hc hv g1 next Q fun v y c' st' h1 h2 h3 h4 _ => hn v y c' st' h1 h2 h3 (g3.step.trans h4)
      · cases g1
    · cases h
  · cases h

theorem goes_enter (htb : tb.ok P) {f : FuncId} {argv : Array Value} (hrun : (execOp a.eval o).run P c.w = .ok (.enter f argv) c.w) (hr : Rel c st a.tmps)
    {con : Con} (hc : tb.con f = some con) {vs : List V1} (hv : All2 (v1Rel c) vs argv.toList) (h : con.run none vs st K = some r) : OpGoes P o c a K r := by
  intro next Q hn
  unfold Oper.wp
  rw [hrun, Oper.upon_enter]
  refine ((htb.con _ _ hc).goes none K r vs argv c st a.tmps h hr hv).mono fun e w' hh => ?_
  obtain ⟨v, st', c', y, rfl, h1, h2, h3, h4, h5, rfl⟩ := hh
  exact hn v y c' st' h1 h2 h3 h4

theorem capLs_rel {lt : Bool} : ∀ {ts : List Ty} {x : tdens ts} {ps : List Value}, CapR (c.S lt) c.w ts x ps → All2 (v1Rel c) (capLs lt ts x) ps
  | [], _, [], _ => trivial
  | [], _, _ :: _, h => h.elim
  | _ :: _, _, [], h => h.elim
  | _ :: _, _, _ :: _, h => ⟨h.1, capLs_rel h.2⟩

theorem capArgs_some : ∀ {xs : List Operand} {st : St} {c : Cx} {K' : (lt : Bool) → (ts : List Ty) → tdens ts → St → Option R}, capArgs tb xs st K' = some r → Rel c st a.tmps →
    ∃ lt ts y st' c', K' lt ts y st' = some r ∧ Rel c' st' a.tmps ∧ Later c c' ∧ CapR (c'.S lt) c'.w ts y (xs.map a.eval)
  | [], st, c, K', h, hr => ⟨_, _, _, st, c, h, hr, Later.refl hr.s, trivial⟩
  | x :: xs, st, c, K', h, hr => by
    have hx := hr.ev x
    simp only [capArgs] at h
    split at h
    · rename_i lt t y hxe
      rw [hxe] at hx
      obtain ⟨ad, h1, h2⟩ := hx
      obtain ⟨lt', ts, ys, st', c', k1, k2, k3, k4⟩ := capArgs_some h hr
      refine ⟨_, _, _, st', c', k1, k2, k3, ⟨ad, h1, h2.step (by rw [k3.w]; exact agree.refl _ _) fun k hk => ?_⟩, k4.step (agree.refl _ _) (S_mono k2.s.sub (by simp))⟩
      refine S_mono k2.s.sub (lt := lt) (by simp; exact fun h _ => h) k ?_
      cases lt with
      | true => exact k3.step.I k hk
      | false => exact k3.step.T k hk
    · rename_i id hxe
      rw [hxe] at hx
      obtain ⟨hid, g, hρ, hp⟩ := hx
      split at h
      · rename_i bt cells hl
        split at h
        · rename_i t ht
          obtain ⟨g', conc, e1, _, e3, e4⟩ := hr.entOf hl
          rw [hρ] at e1
          injection e1 with e1
          injection e1 with e1
          injection e1 with e1 _ _
          subst e1
          obtain ⟨y, st1, c1, h1, h2, h3, h4, h5⟩ := readTy_some (c0 := c) h hr (Later.refl hr.s) e4
          rw [ofT_S] at h5
          split at h1
          · rename_i bt' cells' hl1
            have hid1 : id ∈ c1.D := lookup_D h2.s hl1
            have hρ1 : c1.ρ id = .pointer (some ⟨g, 0, none⟩) := by rw [h3.ρ id hid1]; exact hρ
            have e3' : c1.w.heap[g]? = some (.cells conc bt (0, 0)) := by rw [h3.w]; exact e3
            obtain ⟨f1, f2⟩ := h2.freezeB hl1 hρ1 e3' h5
            have f3 := later_freeze h2 hid1 f2
            obtain ⟨lt', ts, ys, st', c', k1, k2, k3, k4⟩ := capArgs_some h1 f1
            have k5 := f3.trans k3 k3.D
            refine ⟨_, _, _, st', c', k1, k2, h3.trans k5 k5.D, ⟨⟨g, 0, none⟩, hp, ?_, conc.toList, h5.step (by rw [k5.w]; exact agree.refl _ _) fun k hk => ?_, fun i u hu => ?_⟩, k4.step (agree.refl _ _) (S_mono k2.s.sub (by simp))⟩
            · refine S_mono k2.s.sub (lt := cells.all ltOf) (by simp; exact fun h _ => h) g ?_
              have hog : c1.ow id g := .inl (by rw [hρ1]; rfl)
              cases cells.all ltOf with
              | true => exact k3.step.I g (.inr hog)
              | false => exact k3.step.T g (.inr hog)
            · refine S_mono k2.s.sub (lt := cells.all ltOf) (by simp; exact fun h _ => h) k ?_
              revert hk
              cases cells.all ltOf with
              | true => exact fun hk => k5.step.I k hk
              | false => exact fun hk => k5.step.T k hk
            · rw [k5.w, add_at]
              simp only [World.cell?, e3']
              rw [Array.getElem?_toList] at hu
              simpa using hu
          · cases h1
        · cases h
      · cases h
    · cases h

theorem goes_capFv {f : FuncId} {first captured : Array Operand} (ho : o.op = .makeFunc (.func f) first captured) (h1 : first.toList = []) (hr : Rel c st a.tmps)
    (h : capArgs tb captured.toList st (fun lt ts y st' => K (.lf (.cap lt f ts y)) st') = some r) : OpGoes P o c a K r := by
  have e1 : first = #[] := Array.ext' (by simpa using h1)
  subst e1
  obtain ⟨lt, ts, y, st', c', k1, k2, k3, k4⟩ := capArgs_some h hr
  intro next Q hn
  refine wp_val (y := .func (.func f) #[] (captured.map a.eval)) (w' := c.w) ?_ ?_
  · unfold execOp
    simp [ho, Instr.makeFunc]
  · have := hn _ _ c' st' k1 k2 ⟨captured.map a.eval, rfl, by rw [Array.toList_map]; exact k4⟩ k3.step
    rwa [k3.w] at this

theorem goes_callFv (htb : tb.ok P) {x : Operand} {args : Array Operand} {types : Array TypeId} (ho : o.op = .call { callee := .value x, args := args, argTypes := types }) (hr : Rel c st a.tmps)
    {vs : List V1} (hv : allV1 (args.toList.map st.ev) = some vs) (h : callFv tb (st.ev x) vs st K = some r) : OpGoes P o c a K r := by
  have hx := hr.ev x
  have ha := allV1_rel hr hv
  unfold callFv at h
  split at h
  · rename_i f hxe
    rw [hxe] at hx
    have hx : a.eval x = .func (.func f) #[] #[] := hx
    split at h
    · rename_i con hc
      have hcon := htb.con _ _ hc
      refine goes_enter htb (argv := args.map a.eval) ?_ hr hc (by rw [Array.toList_map]; exact ha) h
      unfold execOp
      simp [ho, resolve, Deferred.ofValue, hx, invoke, hcon.enters]
    · cases h
  · rename_i lt f agg t y hxe
    rw [hxe] at hx
    obtain ⟨y0, h1, h2, h3⟩ := hx
    split at h
    · rename_i con hc
      have hcon := htb.con _ _ hc
      refine goes_enter htb (argv := #[y0] ++ args.map a.eval) ?_ hr hc ?_ h
      · unfold execOp
        simp [ho, resolve, Deferred.ofValue, h1, invoke, hcon.enters]
      · rw [Array.toList_append, Array.toList_map]
        exact ⟨ofLv_rel (leaves_rel lt h3) h2, ha⟩
    · cases h
  · rename_i lt f ts y hxe
    rw [hxe] at hx
    obtain ⟨ps, h1, h2⟩ := hx
    split at h
    · rename_i con hc
      have hcon := htb.con _ _ hc
      refine goes_enter htb (argv := args.map a.eval ++ ps) ?_ hr hc ?_ h
      · unfold execOp
        simp [ho, resolve, Deferred.ofValue, h1, invoke, hcon.enters]
      · rw [Array.toList_append, Array.toList_map]
        exact ha.append (capLs_rel h2)
    · cases h
  · cases h

theorem goes_mkFv {f : FuncId} {x : Operand} {first captured : Array Operand} (ho : o.op = .makeFunc (.func f) first captured) (h1 : first.toList = [x]) (h2 : captured.toList = []) (hr : Rel c st a.tmps)
    (h : mkFv (st.ev x) f (fun v => K v st) = some r) : OpGoes P o c a K r := by
  have e1 : first = #[x] := Array.ext' (by simpa using h1)
  have e2 : captured = #[] := Array.ext' (by simpa using h2)
  subst e1 e2
  have hx := hr.ev x
  have fin : ∀ {v : AV}, K v st = some r → avRel c v (.func (.func f) #[a.eval x] #[]) → OpGoes P o c a K r := by
    intro v hk hv next Q hn
    refine wp_val (y := .func (.func f) #[a.eval x] #[]) (w' := c.w) ?_ (hn _ _ c st hk hr hv (Step.refl c))
    unfold execOp
    simp [ho, Instr.makeFunc]
  unfold mkFv at h
  split at h
  · rename_i ls hxe
    rw [hxe] at hx
    obtain ⟨cs, q1, q2⟩ := hx
    obtain ⟨lt, t, y, k1, k2⟩ := gather_some hr.s.sub h q2
    exact fin k1 ⟨a.eval x, rfl, by rw [shape, if_pos rfl]; exact ⟨cs, q1⟩, by rw [q1]; exact k2⟩
  · rename_i l hxe
    rw [hxe] at hx
    obtain ⟨lt, t, y, k1, k2⟩ := gather1_some h hx
    have hone : (a.eval x).oneCell' = true := leaf_one hx
    exact fin k1 ⟨a.eval x, rfl, by rw [shape, if_neg (by simp)]; exact hone, by rw [one_cells hone]; exact k2⟩
  · cases h

theorem evOpD_goes (htb : tb.ok P) (hr : Rel c st a.tmps) (h : evOpD tb o st K = some r) : OpGoes P o c a K r := by
  unfold evOpD at h
  split at h
  · rename_i t p hop
    split at h
    · rename_i id sz j off hpe
      split at h
      · obtain ⟨st1, c1, g1, g2, g3, g4, g5⟩ := openZ_some h hr
        have hp := hr.ev p
        rw [hpe] at hp
        have := goes_loadZ htb.ok0 hop g2 (g5 _ _ hp) g1
        intro next Q hn
        rw [← g4]
        exact this next Q fun v y c' st' h1 h2 h3 h4 => hn v y c' st' h1 h2 h3 (g3.trans h4)
      · exact evOp_goes htb hr h
    · exact evOp_goes htb hr h
  · rename_i fn first captured hop
    split at h
    · rename_i f x h1 h2
      exact goes_mkFv hop h1 h2 hr h
    · rename_i f h1
      exact goes_capFv hop h1 hr h
    · cases h
  · rename_i cl hop
    obtain ⟨callee, args, types⟩ := cl
    simp only at h
    split at h
    · rename_i x
      refine solid_goesA h hr fun {st1} {c1} hr' h' => ?_
      split at h'
      · rename_i vs hv
        exact goes_callFv htb hop hr' hv h'
      · cases h'
    · exact evOp_goes htb hr h
  · exact evOp_goes htb hr h

theorem put_defers (a : Act) (d : Option Tmp) (v : Value) : (a.put d v).defers = a.defers := by cases d <;> rfl

def dstOk (fixed : List Nat) (o : Oper) : Prop := ∀ d, o.dst = some d → d ∉ fixed
/-- What stays in the variables. -/
def Kp (fixed : List Nat) (a' a : Act) : Prop := a'.defers = a.defers ∧ ∀ s, s ∈ fixed → a'.tmps.getD s undef = a.tmps.getD s undef
theorem Kp.refl (fixed : List Nat) (a : Act) : Kp fixed a a := ⟨rfl, fun _ _ => rfl⟩
theorem Kp.trans {fixed : List Nat} {a b c : Act} (h : Kp fixed a b) (k : Kp fixed b c) : Kp fixed a c := ⟨h.1.trans k.1, fun s hs => (h.2 s hs).trans (k.2 s hs)⟩
theorem Kp.put {fixed : List Nat} {o : Oper} (h : dstOk fixed o) (a : Act) (v : Value) : Kp fixed (a.put o.dst v) a := by
  refine ⟨put_defers _ _ _, fun s hs => ?_⟩
  cases hd : o.dst with
  | none => rfl
  | some d =>
    have hne : d ≠ s := fun e => h d hd (e ▸ hs)
    simp only [Act.put, Array.getD_eq_getD_getElem?, Array.getElem?_setIfInBounds]
    rw [if_neg hne]
theorem fixOk_region {fixed : List Nat} {id : Nat} {ops : Array Oper} {draw : Bool} (h : fixOk fixed (.region id ops draw) = true) : ∀ o, o ∈ ops.toList → dstOk fixed o := by
  intro o ho d hd
  have := List.all_eq_true.mp h o ho
  rw [hd] at this
  simpa using this
theorem undef_rel (c : Cx) : avRel c .undef undef := ⟨#[], rfl, trivial⟩

theorem put_same (hr : Rel c st a.tmps) {d : Nat} {v : AV} (hv : st.env[d]? = some v) : Rel c (st.put (some d) v) a.tmps := by
  refine ⟨hr.s, ?_⟩
  show All2 _ (st.env.set d v) _
  have : st.env.set d v = st.env := by
    apply List.ext_getElem?
    intro i
    rw [List.getElem?_set]
    split
    · rename_i h
      subst h
      split
      · rw [hv]
      · rename_i h2
        rw [List.getElem?_eq_none (by omega)] at hv
        cases hv
    · rfl
  rw [this]
  exact hr.env

theorem evOps_goes (htb : tb.ok P) {ops : Array Oper} {Kc : St → Option R} {Q : Exit → Act → World → Prop} : ∀ {rest : List Oper} {a : Act} {c : Cx} {st : St}, (∀ o, o ∈ rest → dstOk tb.fixed o) → Rel c st a.tmps → evOps tb ops rest st Kc = some r →
    (∀ a' c' st', Kc st' = some r → Rel c' st' a'.tmps → Step c c' → Kp tb.fixed a' a → Q .normal a' c'.w) → wpList P ops Q rest a c.w
  | [], a, c, st, _, hr, h, hq => hq a c st h hr (Step.refl c) (Kp.refl _ _)
  | o :: rest, a, c, st, hfx, hr, h, hq => by
    have hfo := hfx o (by simp)
    have hfr : ∀ o, o ∈ rest → dstOk tb.fixed o := fun o ho => hfx o (by simp [ho])
    have run : ∀ {st1 : St}, Rel c st1 a.tmps → (evOpD tb o st1 fun v st' => evOps tb ops rest (st'.put o.dst v) Kc) = some r → o.wp P a c.w (wpList P ops Q rest) Q := by
      intro st1 hr1 h1
      refine evOpD_goes htb hr1 h1 _ _ fun v y c' st' h2 h3 h4 h5 => ?_
      refine evOps_goes htb hfr (h3.put (a := a) h4) h2 fun a' c2 st2 k1 k2 k3 k4 => ?_
      exact hq a' c2 st2 k1 k2 (h5.trans k3) (k4.trans (Kp.put hfo _ _))
    have skip : ∀ {st1 : St}, Rel c st1 a.tmps → evOps tb ops rest (st1.put o.dst .undef) Kc = some r → wpList P ops Q rest (a.put o.dst undef) c.w := by
      intro st1 hr1 h1
      refine evOps_goes htb hfr (hr1.put (a := a) (undef_rel c)) h1 fun a' c2 st2 k1 k2 k3 k4 => ?_
      exact hq a' c2 st2 k1 k2 k3 (k4.trans (Kp.put hfo _ _))
    unfold evOps at h
    unfold wpList
    split at h
    · rename_i hg
      rw [if_pos (by simp [Region.wanted, hg])]
      exact .inl (run hr h)
    · rename_i j want hg
      split at h
      · rename_i d hd
        have hy : ∀ v, st.env.getD d .dead = v → v ≠ .dead → st.env[d]? = some v ∧ ∃ y, a.tmps[d]? = some y ∧ avRel c v y := by
          intro v hv hne
          rw [List.getD_eq_getElem?_getD] at hv
          cases he : st.env[d]? with
          | none => rw [he] at hv; exact absurd hv.symm hne
          | some v' =>
            rw [he] at hv
            have hv' : v' = v := hv
            subst hv'
            obtain ⟨y, h1, h2⟩ := hr.env.get d v' he
            exact ⟨rfl, y, by simpa using h1, h2⟩
        split at h
        · rename_i b hv
          obtain ⟨he, y, hy1, hy2⟩ := hy _ hv (by simp)
          have hyb : y = .bool b := hy2.1
          have hw : Region.wanted o (yielded ops a.tmps) = (b == want) := by
            simp only [Region.wanted, hg, yielded, hd, Option.bind_some, hy1, hyb]
            cases b <;> cases want <;> rfl
          rw [hw]
          have hsame := put_same hr he
          cases b <;> cases want
          · exact .inl (run hsame h)
          · exact skip hsame h
          · exact skip hsame h
          · exact .inl (run hsame h)
        · rename_i hv
          obtain ⟨he, y, hy1, hy2⟩ := hy _ hv (by simp)
          obtain ⟨ws, hyw, _⟩ := hy2
          have hw : Region.wanted o (yielded ops a.tmps) = false := by
            simp only [Region.wanted, hg, yielded, hd, Option.bind_some, hy1, hyw]
            cases want <;> rfl
          rw [hw]
          exact skip hr h
        · cases h
      · cases h

/-! ### Regions that draw -/
/-- Operations that leave what was as it was. -/
theorem evOp_tame (htb : tb.ok P) {M : List Nat} (hM : tb.deep = false ∨ M = []) {ap : Bool} (hok : tameOk tb ap o = true) (hr : Rel c st a.tmps) (h : evOp tb o st K = some r) : OpGoesM P o c a K r ap M := by
  have h00 := h
  unfold evOp at h
  split at h
  · exact ((goes_move (.inl (by assumption)) hr h).goesT hr ap).toM
  · exact ((goes_move (.inr (by assumption)) hr h).goesT hr ap).toM
  · exact ((goes_pick (by assumption) hr h).goesT hr ap).toM
  · exact (goes_alloc htb.ok0 (by assumption) hr h).toM
  · exact (goes_box (by assumption) hr h).toM
  · exact ((goes_build htb.ok0 (by assumption) hr h).goesT hr ap).toM
  · exact (goes_buildSlice htb.ok0 (by assumption) hr h).toM
  · exact ((goes_load htb.ok0 (by assumption) hr h).goesT hr ap).toM
  · rename_i hop
    simp [tameOk, isPure, isLoad, hop] at hok
  · exact ((goes_nilCheck (by assumption) hr h).goesT hr ap).toM
  · exact ((goes_binOp htb.ok0 (by assumption) hr h).goesT hr ap).toM
  · exact ((goes_unOp (by assumption) hr h).goesT hr ap).toM
  · exact ((goes_convert htb.ok0 (by assumption) hr h).goesT hr ap).toM
  · exact (goes_makeSlice htb.ok0 (by assumption) hr h).toM
  · exact ((goes_fieldAddr htb.ok0 (by assumption) hr h).goesT hr ap).toM
  · exact ((goes_indexAddr htb.ok0 (by assumption) hr h).goesT hr ap).toM
  · exact solid_goesM hM h hr fun hr' h' => (goes_slice htb.ok0 (by assumption) hr' h').toM
  · exact (goes_slice3 htb.ok0 (by assumption) hr h).toM
  · exact ((goes_extract (by assumption) hr h).goesT hr ap).toM
  · exact ((goes_field htb.ok0 (by assumption) hr h).goesT hr ap).toM
  · rename_i cl hop
    obtain ⟨callee, args, types⟩ := cl
    simp only at h
    split at h
    · have hap : ap = true := by simpa [tameOk, isPure, isLoad, hop] using hok
      rw [hap]
      exact solid_goesM hM h hr fun hr' h' => goes_appendL htb.ok0 (hM.imp (fun e => e) fun e => by subst e; exact fun _ _ _ h => by cases h) hop hr' h'
    · rename_i b hb
      exact ((goes_builtin htb.ok0 (fun e => hb e) hop hr h).goesT hr ap).toM
    · rename_i f
      refine solid_goesM hM h hr fun {st1} {c1} hr' h' => ?_
      split at h'
      · rename_i con vs hc hv
        have hmu : con.mu = [] := by
          have : tameCall tb f = true := by simpa [tameOk, isPure, isLoad, hop] using hok
          unfold tameCall at this
          rw [hc] at this
          simpa using this
        exact fun next Q hn => goes_call (ap := ap) htb hop hr' hc hv h' next Q fun v y c' st' h1 h2 h3 h4 h5 => hn v y c' st' h1 h2 h3 h4 (h5 M (.inr hmu))
      · cases h'
    · cases h
  · cases h

theorem evOp_tameN (htb : tb.ok P) {M : List Nat} {ap : Bool} (hok : tameOk tb ap o = true) (hnc : ∀ cl, o.op ≠ .call cl) (hns : ∀ q1 q2 q3 q4 q5, o.op ≠ .slice q1 q2 q3 q4 q5) (hr : Rel c st a.tmps) (h : evOp tb o st K = some r) : OpGoesM P o c a K r ap M := by
  have h00 := h
  unfold evOp at h
  split at h
  · exact ((goes_move (.inl (by assumption)) hr h).goesT hr ap).toM
  · exact ((goes_move (.inr (by assumption)) hr h).goesT hr ap).toM
  · exact ((goes_pick (by assumption) hr h).goesT hr ap).toM
  · exact (goes_alloc htb.ok0 (by assumption) hr h).toM
  · exact (goes_box (by assumption) hr h).toM
  · exact ((goes_build htb.ok0 (by assumption) hr h).goesT hr ap).toM
  · exact (goes_buildSlice htb.ok0 (by assumption) hr h).toM
  · exact ((goes_load htb.ok0 (by assumption) hr h).goesT hr ap).toM
  · rename_i hop
    simp [tameOk, isPure, isLoad, hop] at hok
  · exact ((goes_nilCheck (by assumption) hr h).goesT hr ap).toM
  · exact ((goes_binOp htb.ok0 (by assumption) hr h).goesT hr ap).toM
  · exact ((goes_unOp (by assumption) hr h).goesT hr ap).toM
  · exact ((goes_convert htb.ok0 (by assumption) hr h).goesT hr ap).toM
  · exact (goes_makeSlice htb.ok0 (by assumption) hr h).toM
  · exact ((goes_fieldAddr htb.ok0 (by assumption) hr h).goesT hr ap).toM
  · exact ((goes_indexAddr htb.ok0 (by assumption) hr h).goesT hr ap).toM
  · rename_i hop; exact absurd hop (hns _ _ _ _ _)
  · exact (goes_slice3 htb.ok0 (by assumption) hr h).toM
  · exact ((goes_extract (by assumption) hr h).goesT hr ap).toM
  · exact ((goes_field htb.ok0 (by assumption) hr h).goesT hr ap).toM
  · rename_i cl hop; exact absurd hop (hnc _)
  · cases h

/-- Calls that write what M owns alone. -/
theorem evCallIn_goes (htb : tb.ok P) {ap : Bool} {M : List Nat} (hM : tb.deep = false ∨ M = []) (hr : Rel c st a.tmps) (h : evCallIn tb M o st K = some r) : OpGoesM P o c a K r ap M := by
  unfold evCallIn at h
  split at h
  · rename_i cl hop
    obtain ⟨callee, args, types⟩ := cl
    simp only at h
    split at h
    · refine solid_goesM hM h hr fun {st1} {c1} g2 g1 => ?_
      split at g1
      · rename_i con vs hc hv
        exact fun next Q hn => goes_call (ap := ap) htb hop g2 hc hv g1 next Q fun v y c' st' h1 h2 h3 h4 h5 => hn v y c' st' h1 h2 h3 h4 (h5 M (.inl rfl))
      · cases g1
    · cases h
  · cases h

theorem or_deep {M : List Nat} (h : (!tb.deep || M.isEmpty) = true) : tb.deep = false ∨ M = [] := by
  cases hd : tb.deep with
  | false => exact .inl rfl
  | true => right; rw [hd] at h; simpa using h
theorem evCallInF_goes (htb : tb.ok P) {ap : Bool} {M : List Nat} (hr : Rel c st a.tmps) (h : evCallInF tb M o st K = some r) : OpGoesM P o c a K r ap M := by
  unfold evCallInF at h
  split at h
  · rename_i hd
    exact evCallIn_goes htb (or_deep hd) hr h
  · split at h
    · rename_i cl hop
      split at h
      · rename_i hsf
        obtain ⟨callee, args, types⟩ := cl
        unfold evCallIn at h
        simp only [hop] at h
        split at h
        · refine solid_goesN hsf h hr fun {st1} {c1} g2 g1 => ?_
          split at g1
          · rename_i con vs hc hv
            exact fun next Q hn => goes_call (ap := ap) htb hop g2 hc hv g1 next Q fun v y c' st' h1 h2 h3 h4 h5 => hn v y c' st' h1 h2 h3 h4 (h5 M (.inl rfl))
          · cases g1
        · cases h
      · cases h
    · cases h
theorem OpGoesM.checked {ap : Bool} {M : List Nat} {p : AV → Bool} (h : OpGoesM P o c a (fun v st' => if p v = true then K v st' else none) r ap M) : OpGoesM P o c a K r ap M := fun next Q hn => h next Q fun v y c' st' h1 h2 h3 h4 h5 => by
  simp only at h1
  split at h1
  · exact hn v y c' st' h1 h2 h3 h4 h5
  · cases h1
/-- An operation where deep rows may be taken over, but by none that M names. -/
theorem evOpF_tame (htb : tb.ok P) {M : List Nat} {ap : Bool} (hok : tameOk tb ap o = true) (hr : Rel c st a.tmps) (h : evOpF tb M o st K = some r) : OpGoesM P o c a K r ap M := by
  unfold evOpF at h
  split at h
  · rename_i hd
    exact evOp_tame htb (or_deep hd) hok hr h
  · have h00 := h
    split at h
    · rename_i cl hop
      split at h
      · rename_i hsf
        refine OpGoesM.checked (p := ownOut M) ?_
        obtain ⟨callee, args, types⟩ := cl
        unfold evOp at h
        simp only [hop] at h
        split at h
        · have hap : ap = true := by simpa [tameOk, isPure, isLoad, hop] using hok
          rw [hap]
          exact solid_goesN hsf h hr fun hr' h' => goes_appendL htb.ok0 (.inr fun id st' hK => by
            split at hK
            · rename_i ho
              simpa [ownOut] using ho
            · cases hK) hop hr' h'
        · rename_i b hb
          exact ((goes_builtin htb.ok0 (fun e => hb e) hop hr h).goesT hr ap).toM
        · rename_i f
          refine solid_goesN hsf h hr fun {st1} {c1} hr' h' => ?_
          split at h'
          · rename_i con vs hc hv
            have hmu : con.mu = [] := by
              have : tameCall tb f = true := by simpa [tameOk, isPure, isLoad, hop] using hok
              unfold tameCall at this
              rw [hc] at this
              simpa using this
            exact fun next Q hn => goes_call (ap := ap) htb hop hr' hc hv h' next Q fun v y c' st' h1 h2 h3 h4 h5 => hn v y c' st' h1 h2 h3 h4 (h5 M (.inr hmu))
          · cases h'
        · cases h
      · cases h
    · cases h
    · rename_i hnc hns
      exact evOp_tameN htb hok (fun cl e => hnc cl e) (fun _ _ _ _ _ e => hns _ _ _ _ _ e) hr h

/-- A store into a block that M owns. -/
theorem store_in (htb : tb.ok P) {M : List Nat} (hin : storeIn M o st = true) (hr : Rel c st a.tmps) (h : evOp tb o st K = some r) : OpGoesM P o c a K r false M := by
  unfold storeIn at hin
  split at hin
  rotate_left
  · cases hin
  rename_i t p x ho
  split at hin
  rotate_left
  · cases hin
  rename_i id off hpe
  have hM : id ∈ M := by simpa using hin
  unfold evOp at h
  rw [ho] at h
  simp only at h
  have hp := hr.ev p
  rw [hpe] at hp
  unfold evStore at h
  split at h
  rotate_left
  · cases h
  rename_i i new hi hnew
  split at h
  rotate_left
  · cases h
  rename_i hlen
  rw [hpe] at h
  simp only at h
  split at h
  rotate_left
  · cases h
  rename_i bt cells hl
  split at h
  rotate_left
  · cases h
  rename_i hoff
  have hti := htb.ok0.ti _ _ hi
  have hx := leavesOf_rel hnew (hr.ev x)
  have hone := all2_one hx
  have hxs : (a.eval x).cells.size = i.size := by rw [← hlen, hx.length]; simp
  obtain ⟨h1, g, h2, h3⟩ := hp
  have hent := hr.entOf hl
  obtain ⟨g', conc, k1, k2, k3, k4⟩ := hent
  obtain rfl : g' = g := by rw [k1] at h2; injection h2 with h2; injection h2 with h2; injection h2
  have hcl := k4.length
  have hb : off + (a.eval x).cells.size ≤ conc.size := by rw [hxs, ← hlen, ← Array.length_toList, ← hcl]; exact hoff
  have hrun := run_storeAt (P := P) hti k3 hxs hb hone
  have hbk : blk (c.ρ id) = some g' := by rw [k1]; rfl
  have hold : ∀ k, k < c.w.heap.size → some k ≠ blk (c.ρ id) → (c.w.setRow g' (setSeg conc.toList off (a.eval x).cells.toList).toArray).heap[k]? = c.w.heap[k]? := fun k _ hk => setRow_other _ _ _ _ (fun e => hk (by rw [hbk, e]))
  obtain ⟨q1, q2⟩ := hr.turn (w1 := c.w.setRow g' (setSeg conc.toList off (a.eval x).cells.toList).toArray) (y := c.ρ id) (e1 := .box bt (setAt cells off new)) (f := fun l => l) hl hold (setRow_below _ _ _) (fun g hg => .inl hg)
    (leaf_same hr.s hl hold) (fun _ _ => rfl) ⟨g', _, by show (if id = id then c.ρ id else c.ρ id) = _; rw [if_pos rfl]; exact k1, k2, setRow_heap _ _ _ _ _ _ k3, by
      have := setAt_rel off k4 hx
      exact this.mono (leaf_same hr.s hl hold)⟩
  rw [St.map_id] at q1
  have hρ : ∀ i, (c.turn (c.w.setRow g' (setSeg conc.toList off (a.eval x).cells.toList).toArray) id (c.ρ id)).ρ i = c.ρ i := by
    intro i
    show (if i = id then c.ρ id else c.ρ i) = c.ρ i
    split
    · rename_i e; rw [e]
    · rfl
  intro next Q hn
  unfold Oper.wp
  have exe : (execOp a.eval o).run P c.w = .ok .skip (c.w.setRow g' (setSeg conc.toList off (a.eval x).cells.toList).toArray) := by
    unfold execOp
    rw [ho]
    have : (Instr.storeAt t (a.eval p) (a.eval x)).run P c.w = .ok () (c.w.setRow g' (setSeg conc.toList off (a.eval x).cells.toList).toArray) := by rw [h3]; exact hrun
    simp only [Sem.run_bind, this, Result.andThen_ok, Sem.run_pure]
  rw [exe]
  refine hn .undef undef _ _ h q1 ⟨#[], rfl, trivial⟩ q2 ⟨?_, fun k hk _ hm => hold k hk fun e => hm id hM h1 (.inl e.symm), fun j hj g hg _ => .inl ⟨j, hj, by rw [← hρ j]; exact hg⟩, fun j hjM hj g hg _ => ⟨j, hjM, hj, hg.elim (fun hg => .inl (by rw [← hρ j]; exact hg)) .inr⟩, fun k hk _ => .inl hk, fun j hj g hg _ => ⟨j, hj, hg.elim (fun hg => .inl (by rw [← hρ j]; exact hg)) .inr⟩⟩
  show c.w.heap.size ≤ (c.w.setRow g' _).heap.size
  simp [World.setRow]

/-- Operations that yield their value in whatever world. -/
theorem evOp_pure (htb : tb.ok P) (hok : isPure o = true) (hr : Rel c st a.tmps) (h : evOp tb o st K = some r) : Quiet P o c a st K r := by
  unfold evOp at h
  split at h
  · exact goes_move (.inl (by assumption)) hr h
  · exact goes_move (.inr (by assumption)) hr h
  · exact goes_pick (by assumption) hr h
  · rename_i hop; simp [isPure, hop] at hok
  · rename_i hop; simp [isPure, hop] at hok
  · exact goes_build htb.ok0 (by assumption) hr h
  · rename_i hop; simp [isPure, hop] at hok
  · rename_i hop; simp [isPure, hop] at hok
  · rename_i hop; simp [isPure, hop] at hok
  · exact goes_nilCheck (by assumption) hr h
  · exact goes_binOp htb.ok0 (by assumption) hr h
  · exact goes_unOp (by assumption) hr h
  · exact goes_convert htb.ok0 (by assumption) hr h
  · rename_i hop; simp [isPure, hop] at hok
  · exact goes_fieldAddr htb.ok0 (by assumption) hr h
  · exact goes_indexAddr htb.ok0 (by assumption) hr h
  · rename_i hop; simp [isPure, hop] at hok
  · rename_i hop; simp [isPure, hop] at hok
  · exact goes_extract (by assumption) hr h
  · exact goes_field htb.ok0 (by assumption) hr h
  · rename_i cl hop
    obtain ⟨callee, args, types⟩ := cl
    simp only at h
    split at h
    · simp [isPure, hop] at hok
    · rename_i b hb
      exact goes_builtin htb.ok0 (fun e => hb e) hop hr h
    · simp [isPure, hop] at hok
    · cases h
  · cases h

theorem evOp_load (htb : tb.ok P) (hok : isLoad o = true) (hr : Rel c st a.tmps) (h : evOp tb o st K = some r) : Loads P o c a st (loadRow o st) (loadId o st) K r := by
  unfold isLoad at hok
  split at hok
  · rename_i t p hop
    have h1 : evLoad tb t (st.ev p) st (fun v => K v st) = some r := by
      unfold evOp at h
      rw [hop] at h
      exact h
    have := goes_load htb.ok0 hop hr h1
    unfold loadRow loadId
    rw [hop]
    exact this
  · cases hok

section
variable {ops : Array Oper} {Q : Exit → Act → World → Prop} {md : Region.Mode} {S S' : Array Bool → Nat → World → Prop}

/-- Whatever order is picked, and S holds behind each operation. -/
def wpAnyD (P : Program) (md : Region.Mode) (ops : Array Oper) (Q : Exit → Act → World → Prop) (S : Array Bool → Nat → World → Prop) : Nat → Array Bool → Act → World → Prop
  | 0, listed, a, w => Region.ready md ops listed = [] ∧ Q .normal a w
  | fuel + 1, listed, a, w =>
    (Region.ready md ops listed = [] → Q .normal a w) ∧
    ∀ i ∈ Region.ready md ops listed, wpOp P ops Q i (fun a' w' => S listed i w' ∧ wpAnyD P md ops Q S fuel (listed.setIfInBounds i true) a' w') a w

theorem wpAny_of_D : ∀ (fuel : Nat) (listed : Array Bool) (a : Act) (w : World), wpAnyD P md ops Q S fuel listed a w → wpAny P md ops Q fuel listed a w
  | 0, _, _, _, h => h
  | fuel + 1, _, _, _, h => ⟨h.1, fun i hi => wpOp_mono (fun a' w' h' => wpAny_of_D fuel _ a' w' h'.2) (h.2 i hi)⟩

theorem unlisted_set {listed : Array Bool} {i j : Nat} (h : (listed.setIfInBounds i true).getD j true = false) : listed.getD j true = false := by
  by_cases hij : i = j
  · subst hij
    simp only [Array.getD_eq_getD_getElem?, Array.getElem?_setIfInBounds_self] at h
    split at h <;> simp at h
  · rwa [getD_set_ne true hij] at h
theorem set_listed {listed : Array Bool} {i : Nat} : (listed.setIfInBounds i true).getD i true = true := by
  simp only [Array.getD_eq_getD_getElem?, Array.getElem?_setIfInBounds_self]
  split <;> simp

theorem wpAnyD_mono : ∀ (fuel : Nat) (listed : Array Bool) (a : Act) (w : World), (∀ j o, ops[j]? = some o → listed.getD j true = false → ∀ l w, S l j w → S' l j w) → wpAnyD P md ops Q S fuel listed a w → wpAnyD P md ops Q S' fuel listed a w
  | 0, _, _, _, _, h => h
  | fuel + 1, listed, _, _, hl, h => ⟨h.1, fun i hi => by
    obtain ⟨hu, o, ho, _⟩ := mem_ready.1 hi
    exact wpOp_mono (fun a' w' h' => ⟨hl i o ho hu _ _ h'.1, wpAnyD_mono fuel _ a' w' (fun j o hj hun => hl j o hj (unlisted_set hun)) h'.2⟩) (h.2 i hi)⟩

theorem wpAnyD_monoL : ∀ (fuel : Nat) (listed : Array Bool) (a : Act) (w : World), (∀ j o, ops[j]? = some o → listed.getD j true = false → ∀ l w, (∀ k, listed.getD k true = true → l.getD k true = true) → S l j w → S' l j w) → wpAnyD P md ops Q S fuel listed a w → wpAnyD P md ops Q S' fuel listed a w
  | 0, _, _, _, _, h => h
  | fuel + 1, listed, _, _, hl, h => ⟨h.1, fun i hi => by
    obtain ⟨hu, o, ho, _⟩ := mem_ready.1 hi
    exact wpOp_mono (fun a' w' h' => ⟨hl i o ho hu _ _ (fun _ h => h) h'.1, wpAnyD_monoL fuel _ a' w' (fun j o hj hun l w hs => hl j o hj (unlisted_set hun) l w fun k hk => hs k (by
      cases h9 : (listed.setIfInBounds i true).getD k true with
      | true => rfl
      | false => rw [unlisted_set h9] at hk; cases hk)) h'.2⟩) (h.2 i hi)⟩

/-- An operation that may come up now may be taken first. -/
theorem wpAnyD_first {S0 : World → Prop} {Inv : Array Bool → World → Prop} {i : Nat} {oi : Oper} {v : Value} (hi : ops[i]? = some oi) (hsel : ∀ (j : Nat) (o : Oper) cs b, ops[j]? = some o → o.op ≠ .select cs b)
    (hQ : ∀ c a w, Q (.panic c) (a.put oi.dst v) w → Q (.panic c) a w)
    (h1 : ∀ l w, Inv l w → S0 w) (h2 : ∀ l w, Inv l w → S l i w) (h3 : ∀ l j w, S (l.setIfInBounds i true) j w → S l j w) :
    ∀ (fuel : Nat) (listed : Array Bool) (a : Act) (w : World),
      (∀ j oj, ops[j]? = some oj → j ≠ i → listed.getD j true = false → (∀ e ∈ oj.after, Region.binds md e = true → e.on ≠ i) → oi.apart ops oj = true) →
      Inv listed w →
      (∀ j oj, ops[j]? = some oj → j ≠ i → listed.getD j true = false → (∀ e ∈ oj.after, Region.binds md e = true → e.on ≠ i) → ∀ l w w', (∀ e ∈ oj.after, Region.binds md e = true → l.getD e.on false = true) → Inv l w → S l j w' → Inv (l.setIfInBounds j true) w') →
      i ∈ Region.ready md ops listed → YieldsIf P ops S0 oi v a →
      wpAnyD P md ops Q S fuel (listed.setIfInBounds i true) (a.put oi.dst v) w → wpAnyD P md ops Q S (fuel + 1) listed a w := by
  intro fuel
  induction fuel with
  | zero =>
    intro listed a w _ hS _ hr hy H
    refine ⟨fun h => (by rw [h] at hr; cases hr), fun j hj => ?_⟩
    by_cases hji : j = i
    · subst hji
      exact hy.wpOp hi (h1 _ w hS) ⟨h2 _ w hS, H⟩
    · have := ready_mono hj hji
      rw [H.1] at this
      cases this
  | succ fuel ih =>
    intro listed a w hfree hS hst hr hy H
    refine ⟨fun h => (by rw [h] at hr; cases hr), fun j hj => ?_⟩
    by_cases hji : j = i
    · subst hji
      exact hy.wpOp hi (h1 _ w hS) ⟨h2 _ w hS, H⟩
    · have k1 := H.2 j (ready_mono hj hji)
      obtain ⟨hjun, oj, hoj, hall⟩ := mem_ready.1 hj
      have hnot : ∀ e ∈ oj.after, Region.binds md e = true → e.on ≠ i := fun e he hb heq => by
        have h1 := hall e he hb
        have h0 := (mem_ready.1 hr).1
        rw [heq] at h1
        rcases Nat.lt_or_ge i listed.size with h' | h'
        · simp [h'] at h0 h1; rw [h0] at h1; cases h1
        · simp [Array.getElem?_eq_none h'] at h1
      have k2 := wpOp_putIf hoj (hfree j oj hoj hji hjun hnot) (fun cs b => hsel i oi cs b hi) (fun cs b => hsel j oj cs b hoj) hQ hy k1
      have hfree' : ∀ k ok, ops[k]? = some ok → k ≠ i → (listed.setIfInBounds j true).getD k true = false →
          (∀ e ∈ ok.after, Region.binds md e = true → e.on ≠ i) → oi.apart ops ok = true := fun k ok hk hki hun hno =>
        hfree k ok hk hki (unlisted_set hun) hno
      refine wpOp_mono (fun a' w' k3 => ?_) k2
      have k4 := h3 _ _ _ k3.2.1
      refine ⟨k4, ih (listed.setIfInBounds j true) a' w' hfree' (hst j oj hoj hji hjun hnot _ _ _ hall hS k4) (fun k ok hk hki hun hno => hst k ok hk hki (unlisted_set hun) hno) (ready_mono hr (Ne.symm hji)) k3.1 ?_⟩
      rw [Array.setIfInBounds_comm _ _ hji]
      exact k3.2.2
/-- The same, and what is to wait for it, through others too, has not been. -/
theorem wpAnyD_firstV {S0 : World → Prop} {Inv : Array Bool → World → Prop} {i : Nat} {oi : Oper} {v : Value} (L0 : Array Bool) (hi : ops[i]? = some oi) (hsel : ∀ (j : Nat) (o : Oper) cs b, ops[j]? = some o → o.op ≠ .select cs b)
    (hQ : ∀ c a w, Q (.panic c) (a.put oi.dst v) w → Q (.panic c) a w)
    (h1 : ∀ l w, Inv l w → S0 w) (h2 : ∀ l w, Inv l w → S l i w) (h3 : ∀ l j w, S (l.setIfInBounds i true) j w → S l j w) (fuel : Nat) (listed : Array Bool) (a : Act) (w : World)
      (hfree : ∀ j oj, ops[j]? = some oj → j ≠ i → listed.getD j true = false → (∀ e ∈ oj.after, Region.binds .any e = true → e.on ≠ i) → oi.apart ops oj = true)
      (hC : ∀ f k, L0.getD k true = false → viaB ops L0 i f k = true → listed.getD k true = false)
      (hS : Inv listed w)
      (hst : ∀ j oj, ops[j]? = some oj → j ≠ i → listed.getD j true = false → (∀ e ∈ oj.after, Region.binds .any e = true → e.on ≠ i) → (L0.getD j true = false → ∀ f, viaB ops L0 i f j = false) → ∀ l w w', Inv l w → S l j w' → Inv (l.setIfInBounds j true) w')
      (hr : i ∈ Region.ready .any ops listed) (hy : YieldsIf P ops S0 oi v a)
      (H : wpAnyD P .any ops Q S fuel (listed.setIfInBounds i true) (a.put oi.dst v) w) : wpAnyD P .any ops Q S (fuel + 1) listed a w := by
  refine wpAnyD_first (S0 := S0) (Inv := fun l w => Inv l w ∧ ∀ f k, L0.getD k true = false → viaB ops L0 i f k = true → l.getD k true = false) hi hsel hQ (fun l w h => h1 l w h.1) (fun l w h => h2 l w h.1) h3 fuel listed a w hfree ⟨hS, hC⟩ (fun j oj hj hne hun hno l w w' hall hI hSd => ?_) hr hy H
  have hwaits : ∀ k, waits ops j k = true → ∃ e ∈ oj.after, Region.binds .any e = true ∧ e.on = k := fun k hk => by
    unfold waits at hk
    rw [hj] at hk
    obtain ⟨x, hx, hx2⟩ := Array.any_eq_true.mp hk
    simp only [Bool.and_eq_true, beq_iff_eq] at hx2
    exact ⟨_, Array.getElem_mem hx, hx2.1, hx2.2⟩
  have hv : L0.getD j true = false → ∀ f, viaB ops L0 i f j = false := fun hj0 f => by
    cases hvj : viaB ops L0 i f j with
    | false => rfl
    | true =>
      have hd : waits ops j i = true ∨ ∃ f' k, L0.getD k true = false ∧ waits ops j k = true ∧ viaB ops L0 i f' k = true := by
        cases f with
        | zero => exact .inl hvj
        | succ f' =>
          unfold viaB at hvj
          rcases Bool.or_eq_true _ _ ▸ hvj with h | h
          · exact .inl h
          · obtain ⟨k, _, hk⟩ := List.any_eq_true.mp h
            simp only [Bool.and_eq_true, Bool.not_eq_true'] at hk
            exact .inr ⟨f', k, hk.1.1, hk.1.2, hk.2⟩
      rcases hd with h | ⟨f', k, hk1, hk2, hk3⟩
      · obtain ⟨e, he, hb, hon⟩ := hwaits i h
        exact absurd hon (hno e he hb)
      · obtain ⟨e, he, hb, hon⟩ := hwaits k hk2
        have g1 := hall e he hb
        have g2 := hI.2 f' k hk1 hk3
        rw [hon] at g1
        rcases Nat.lt_or_ge k l.size with h' | h'
        · simp [h'] at g1 g2; rw [g1] at g2; cases g2
        · simp [Array.getElem?_eq_none h'] at g1
  refine ⟨hst j oj hj hne hun hno hv l w w' hI.1 hSd, fun f k hk hkv => ?_⟩
  have hjk : j ≠ k := fun e => by
    subst e
    rw [hv hk f] at hkv
    cases hkv
  rw [getD_set_ne true hjk]
  exact hI.2 f k hk hkv

end

/-- The worlds in which what was is as it was, but for what M owns. -/
def Sc (ap : Bool) (M : List Nat) (c : Cx) (w : World) : Prop := c.w.heap.size ≤ w.heap.size ∧ ∀ k, k < c.w.heap.size → (ap = true → ∀ i, i ∈ c.D → oBlk (c.ρ i) ≠ some k) → (∀ i, i ∈ M → i ∈ c.D → ¬ c.ow i k) → w.heap[k]? = c.w.heap[k]?

theorem Sc.refl (ap : Bool) (M : List Nat) (c : Cx) : Sc ap M c c.w := ⟨Nat.le_refl _, fun _ _ _ _ => rfl⟩
theorem Sc.of_tame {ap : Bool} {M : List Nat} {c c' : Cx} (h : TameM ap M c c') {w : World} (hS : Sc ap M c' w) : Sc ap M c w :=
  ⟨Nat.le_trans h.size hS.1, fun k hk hr hm => (hS.2 k (Nat.lt_of_lt_of_le hk h.size) (fun hap i hi hb => by
    rcases h.rows i hi k hb hk with ⟨j, h1, h2⟩ | ⟨j, h1, h2, h3⟩
    · exact hr hap j h1 h2
    · exact hm j h1 h2 h3) (fun i hM hi hb => by
    obtain ⟨j, h1, h2, h3⟩ := h.mu i hM hi k hb hk
    exact hm j h1 h2 h3)).trans (h.old k hk hr hm)⟩

theorem guarded_some {ops : Array Oper} {yes no : St → Option R} (hr : Rel c st a.tmps) (h : guarded ops o st yes no = some r) :
    (∃ st1, Rel c st1 a.tmps ∧ Region.wanted o (yielded ops a.tmps) = true ∧ yes st1 = some r) ∨ (∃ st1, Rel c st1 a.tmps ∧ Region.wanted o (yielded ops a.tmps) = false ∧ no st1 = some r) := by
  unfold guarded at h
  split at h
  · rename_i hg
    exact .inl ⟨st, hr, by simp [Region.wanted, hg], h⟩
  · rename_i j want hg
    split at h
    · rename_i d hd
      have hy : ∀ v, st.env.getD d .dead = v → v ≠ .dead → st.env[d]? = some v ∧ ∃ y, a.tmps[d]? = some y ∧ avRel c v y := by
        intro v hv hne
        rw [List.getD_eq_getElem?_getD] at hv
        cases he : st.env[d]? with
        | none => rw [he] at hv; exact absurd hv.symm hne
        | some v' =>
          rw [he] at hv
          have hv' : v' = v := hv
          subst hv'
          obtain ⟨y, h1, h2⟩ := hr.env.get d v' he
          exact ⟨rfl, y, by simpa using h1, h2⟩
      split at h
      · rename_i b hv
        obtain ⟨he, y, hy1, hy2⟩ := hy _ hv (by simp)
        have hyb : y = .bool b := hy2.1
        have hw : Region.wanted o (yielded ops a.tmps) = (b == want) := by
          simp only [Region.wanted, hg, yielded, hd, Option.bind_some, hy1, hyb]
          cases b <;> cases want <;> rfl
        rw [hw]
        have hsame := put_same hr he
        cases b <;> cases want
        · exact .inl ⟨_, hsame, rfl, h⟩
        · exact .inr ⟨_, hsame, rfl, h⟩
        · exact .inr ⟨_, hsame, rfl, h⟩
        · exact .inl ⟨_, hsame, rfl, h⟩
      · rename_i hv
        obtain ⟨he, y, hy1, hy2⟩ := hy _ hv (by simp)
        obtain ⟨ws, hyw, _⟩ := hy2
        have hw : Region.wanted o (yielded ops a.tmps) = false := by
          simp only [Region.wanted, hg, yielded, hd, Option.bind_some, hy1, hyw]
          cases want <;> rfl
        exact .inr ⟨st, hr, hw, h⟩
      · cases h
    · cases h

theorem find_mem {α : Type} {p : α → Bool} {l : List α} {x : α} (h : l.find? p = some x) : x ∈ l ∧ p x = true := ⟨List.mem_of_find?_eq_some h, List.find?_some h⟩

theorem lateWait_spec {ops : Array Oper} {listed : Array Bool} {i : Nat} (h : lateWait ops listed i = true) (j : Nat) (oj : Oper) (hj : ops[j]? = some oj) (hne : j ≠ i) (hun : listed.getD j true = false) (hl : lateOp ops j = true) :
    ∃ e ∈ oj.after, Region.binds .any e = true ∧ e.on = i := by
  have hlt : j < ops.size := (Array.getElem?_eq_some_iff.1 hj).1
  have := List.all_eq_true.mp h j (List.mem_range.mpr hlt)
  simp only [Bool.or_eq_true, beq_iff_eq, hne, hun, hl, Bool.not_true, Bool.false_eq_true, or_false, false_or] at this
  unfold waits at this
  rw [hj] at this
  obtain ⟨k, hk, hk2⟩ := Array.any_eq_true.mp this
  simp only [Bool.and_eq_true, beq_iff_eq] at hk2
  exact ⟨_, Array.getElem_mem hk, hk2.1, hk2.2⟩

theorem lateWaitV_spec {ops : Array Oper} {listed : Array Bool} {i : Nat} (h : lateWaitV ops listed i = true) (j : Nat) (oj : Oper) (hj : ops[j]? = some oj) (hne : j ≠ i) (hun : listed.getD j true = false) (hl : lateOp ops j = true) :
    viaB ops listed i 6 j = true := by
  have hlt : j < ops.size := (Array.getElem?_eq_some_iff.1 hj).1
  have := List.all_eq_true.mp h j (List.mem_range.mpr hlt)
  simpa only [Bool.or_eq_true, beq_iff_eq, hne, hun, hl, Bool.not_true, Bool.false_eq_true, or_false, false_or] using this

theorem allLate_spec {ops : Array Oper} {listed : Array Bool} (h : allLate ops listed = true) (j : Nat) (oj : Oper) (hj : ops[j]? = some oj) (hun : listed.getD j true = false) : lateOp ops j = true := by
  have hlt : j < ops.size := (Array.getElem?_eq_some_iff.1 hj).1
  have := List.all_eq_true.mp h j (List.mem_range.mpr hlt)
  simpa [hun] using this


theorem isApp_spec {ops : Array Oper} {j : Nat} (h : isApp ops j = true) : j < ops.size := by
  unfold isApp at h
  split at h
  · rename_i o ho
    exact (Array.getElem?_eq_some_iff.1 ho).1
  · cases h
theorem noApp_spec {ops : Array Oper} {listed : Array Bool} (h : noApp ops listed = true) (k : Nat) (hk : isApp ops k = true) : listed.getD k true = false := by
  have := List.all_eq_true.mp h k (List.mem_range.mpr (isApp_spec hk))
  simpa [hk] using this
theorem appWait_spec {ops : Array Oper} {listed : Array Bool} {i : Nat} (h : appWait ops listed i = true) (j : Nat) (oj : Oper) (hj : ops[j]? = some oj) (hne : j ≠ i) (hun : listed.getD j true = false) (hl : isApp ops j = true) :
    ∃ e ∈ oj.after, Region.binds .any e = true ∧ e.on = i := by
  have hlt : j < ops.size := (Array.getElem?_eq_some_iff.1 hj).1
  have := List.all_eq_true.mp h j (List.mem_range.mpr hlt)
  simp only [Bool.or_eq_true, beq_iff_eq, hne, hun, hl, Bool.not_true, Bool.false_eq_true, or_false, false_or] at this
  unfold waits at this
  rw [hj] at this
  obtain ⟨k, hk, hk2⟩ := Array.any_eq_true.mp this
  simp only [Bool.and_eq_true, beq_iff_eq] at hk2
  exact ⟨_, Array.getElem_mem hk, hk2.1, hk2.2⟩
theorem allLateA_spec {ops : Array Oper} {listed : Array Bool} (h : allLateA ops listed = true) (j : Nat) (oj : Oper) (hj : ops[j]? = some oj) (hun : listed.getD j true = false) : lateOp ops j = true ∨ isApp ops j = true := by
  have hlt : j < ops.size := (Array.getElem?_eq_some_iff.1 hj).1
  have := List.all_eq_true.mp h j (List.mem_range.mpr hlt)
  simpa [hun] using this
/-- What holds behind each operation. -/
def SD (ops : Array Oper) (strict ap : Bool) (M : List Nat) (c : Cx) (l : Array Bool) (j : Nat) (w : World) : Prop :=
  (lateOp ops j = false → Sc ap M c w) ∧ (strict = true → lateOp ops j = false → isApp ops j = false → (∀ k, isApp ops k = true → l.getD k true = false) → Sc false M c w)
theorem SD.of_tame {ops : Array Oper} {strict ap : Bool} {M : List Nat} {c c' : Cx} (h : TameM ap M c c') (h' : strict = true → TameM false M c c') {l : Array Bool} {j : Nat} {w : World} (hS : SD ops strict ap M c' l j w) : SD ops strict ap M c l j w :=
  ⟨fun hl => Sc.of_tame h (hS.1 hl), fun hs hl ha hn => Sc.of_tame (h' hs) (hS.2 hs hl ha hn)⟩
/-- What stays while a quick one waits. -/
def InvL (ops : Array Oper) (strict ap : Bool) (M : List Nat) (c : Cx) (l : Array Bool) (w : World) : Prop :=
  Sc ap M c w ∧ (strict = true → (∀ k, isApp ops k = true → l.getD k true = false) → Sc false M c w)
theorem InvL.step {ops : Array Oper} {strict ap : Bool} {M : List Nat} {c : Cx} {l : Array Bool} {w' : World} {j : Nat} (hl : lateOp ops j = false) (hS : SD ops strict ap M c l j w') : InvL ops strict ap M c (l.setIfInBounds j true) w' :=
  ⟨hS.1 hl, fun hs hn => hS.2 hs hl (by
    cases hj : isApp ops j with
    | false => rfl
    | true => have := hn j hj; rw [set_listed] at this; cases this) fun k hk => unlisted_set (hn k hk)⟩
theorem tameOk_weak {o : Oper} {ap : Bool} (h : tameOk tb ap o = true) (ha : isAppend o = false) : tameOk tb false o = true := by
  cases ap with
  | false => exact h
  | true =>
    unfold tameOk at h ⊢
    revert h
    simp only [Bool.or_eq_true]
    rintro (h | h)
    · exact .inl h
    · refine .inr ?_
      revert h
      split <;> try exact id
      rename_i cl hop
      split <;> try exact id
      rename_i hb
      unfold isAppend at ha
      rw [hop] at ha
      simp only [hb] at ha
      cases ha

theorem opMem {ops : Array Oper} {i : Nat} {o : Oper} (h : ops[i]? = some o) : o ∈ ops.toList := by
  obtain ⟨hlt, rfl⟩ := Array.getElem?_eq_some_iff.mp h
  simp

theorem evAny_goes (htb : tb.ok P) {ops : Array Oper} {strict ap : Bool} {Kc : St → Option R} {Q : Exit → Act → World → Prop} (hp : ∀ ch a w, ¬ Q (.panic ch) a w) (hsel : Region.noSelect ops = true) {M : List Nat} (hfx : ∀ o, o ∈ ops.toList → dstOk tb.fixed o) : ∀ {fuel : Nat} {listed : Array Bool} {a : Act} {c : Cx} {st : St}, Rel c st a.tmps → evAny tb ops strict ap M fuel listed st Kc = some r →
    (∀ a' c' st', Kc st' = some r → Rel c' st' a'.tmps → Step c c' → Kp tb.fixed a' a → Q .normal a' c'.w) → wpAnyD P .any ops Q (SD ops strict ap M c) fuel listed a c.w
  | 0, listed, a, c, st, hr, h, hq => by
    unfold evAny at h
    split at h
    · rename_i hrd
      exact ⟨hrd, hq a c st h hr (Step.refl c) (Kp.refl _ _)⟩
    · cases h
  | fuel + 1, listed, a, c, st, hr, h, hq => by
    unfold evAny at h
    split at h
    · rename_i hrd
      exact ⟨fun _ => hq a c st h hr (Step.refl c) (Kp.refl _ _), by rw [hrd]; simp⟩
    · rename_i i0 more hrd
      split at h
      · rename_i i hfind
        obtain ⟨hmem, hpi⟩ := find_mem hfind
        rw [← hrd] at hmem
        simp only [Bool.and_eq_true, Bool.or_eq_true] at hpi
        obtain ⟨⟨hquick, hfree⟩, hlw⟩ := hpi
        split at h
        · rename_i o hi
          have hfo := hfx o (opMem hi)
          have hna : isApp ops i = false := by
            rw [hi] at hquick
            unfold isApp
            rw [hi]
            simp only at hquick ⊢
            unfold isAppend
            unfold isPure isLoad at hquick
            split
            · rename_i cl hop
              rw [hop] at hquick
              simp only at hquick
              split
              · rename_i hb
                rw [hb] at hquick
                simp at hquick
              · rfl
            · rfl
          have h3 : ∀ l j w, SD ops strict ap M c (l.setIfInBounds i true) j w → SD ops strict ap M c l j w := fun l j w hS => ⟨hS.1, fun hs hl ha hn => hS.2 hs hl ha fun k hk => by
            have hne : i ≠ k := by rintro rfl; rw [hna] at hk; cases hk
            rw [getD_set_ne true hne]
            exact hn k hk⟩
          have hlate : lateWaitV ops listed i = true → ∀ j oj, ops[j]? = some oj → j ≠ i → listed.getD j true = false → (listed.getD j true = false → ∀ f, viaB ops listed i f j = false) → lateOp ops j = false := fun hw j oj hj hne hun hno => by
            cases hl : lateOp ops j with
            | false => rfl
            | true =>
              have := lateWaitV_spec hw j oj hj hne hun hl
              rw [hno hun 6] at this
              cases this
          -- a value that is the same in all worlds
          have free : ∀ {v : Value} {st2 : St}, YieldsIf P ops (fun _ => True) o v a → Rel c st2 (a.put o.dst v).tmps → evAny tb ops strict ap M fuel (listed.setIfInBounds i true) st2 Kc = some r → wpAnyD P .any ops Q (SD ops strict ap M c) (fuel + 1) listed a c.w := by
            intro v st2 hy hr2 h2
            have hrest := evAny_goes htb hp hsel hfx hr2 h2 fun a' c' st' k1 k2 k3 k4 => hq a' c' st' k1 k2 k3 (k4.trans (Kp.put hfo _ _))
            by_cases hw : lateWaitV ops listed i = true
            · exact wpAnyD_firstV (S0 := fun _ => True) (Inv := InvL ops strict ap M c) listed hi (Region.noSelect_spec hsel) (fun ch _ _ hh => absurd hh (hp ch _ _)) (fun _ _ _ => trivial) (fun l w hI => ⟨fun _ => hI.1, fun hs _ _ hn => hI.2 hs hn⟩) h3 fuel listed a c.w (Region.free_spec hi hfree) (fun _ _ h _ => h)
                ⟨Sc.refl ap M c, fun _ _ => Sc.refl false M c⟩ (fun j oj hj hne hun hno hv l w w' _ hS => InvL.step (hlate hw j oj hj hne hun hv) hS) hmem hy hrest
            · have hl : lateOp ops i = true := by
                rcases hlw with hl | hl
                · exact hl
                · exact absurd hl hw
              exact wpAnyD_first (S0 := fun _ => True) (Inv := fun _ _ => True) hi (Region.noSelect_spec hsel) (fun ch _ _ hh => absurd hh (hp ch _ _)) (fun _ _ _ => trivial) (fun l w _ => ⟨fun h0 => (by rw [hl] at h0; cases h0), fun _ h0 => (by rw [hl] at h0; cases h0)⟩) h3 fuel listed a c.w (Region.free_spec hi hfree)
                trivial (fun _ _ _ _ _ _ _ _ _ _ _ _ => trivial) hmem hy hrest
          rcases guarded_some hr h with ⟨st1, hr1, hwt, h1⟩ | ⟨st1, hr1, hwt, h1⟩
          · split at h1
            · rename_i hcond
              by_cases hpure : isPure o = true
              · obtain ⟨v, y, hrun, h2, hv⟩ := evOp_pure htb hpure hr1 h1
                exact free (.inl ⟨hwt, fun w _ => hrun w⟩) (hr1.put (a := a) hv) h2
              · simp only [hpure, Bool.false_eq_true, false_or, Bool.or_eq_true, Bool.and_eq_true, Bool.not_eq_true', Bool.and_eq_false_iff] at hcond
                obtain ⟨⟨⟨hload, hrow⟩, hout⟩, hlw2⟩ := hcond
                obtain ⟨v, y, b, hrun, h2, hv, hb, hnr, hno⟩ := evOp_load htb hload hr1 h1
                have hrest := evAny_goes htb hp hsel hfx (hr1.put (a := a) (dst := o.dst) hv) h2 fun a' c' st' k1 k2 k3 k4 => hq a' c' st' k1 k2 k3 (k4.trans (Kp.put hfo _ _))
                have hMout : ∀ i', i' ∈ M → i' ∈ c.D → ¬ c.ow i' b := fun i' hM' hi' hob => by
                  refine hno i' hi' (fun e => ?_) hob
                  unfold loadOut at hout
                  rw [← e] at hout
                  simp [hM'] at hout
                by_cases hq2 : ap = false ∨ loadRow o st1 = false
                · have hkey : ∀ w, Sc ap M c w → w.heap[b]? = c.w.heap[b]? := fun w hSw => by
                    refine hSw.2 b hb (fun hap i' hi' hob => ?_) hMout
                    have hrow' : loadRow o st1 = false := by
                      rcases hq2 with h9 | h9
                      · rw [hap] at h9; cases h9
                      · exact h9
                    have hi2 := hi'
                    rw [hr1.s.ids] at hi2
                    obtain ⟨e', he'⟩ := mem_ids hi2
                    cases e' with
                    | row e t xs => exact hnr hrow' i' _ he' rfl (ownBlock_blk hob)
                    | lrow e t n cells => exact hnr hrow' i' _ he' rfl (ownBlock_blk hob)
                    | deep e t xs => exact hnr hrow' i' _ he' rfl (ownBlock_blk hob)
                    | zip e t l cells r => exact hnr hrow' i' _ he' rfl (ownBlock_blk hob)
                    | box t cells =>
                      obtain ⟨g, conc, h9, _⟩ := hr1.s.ent _ _ he'
                      rw [h9] at hob
                      cases hob
                  exact wpAnyD_firstV (S0 := fun w => w.heap[b]? = c.w.heap[b]?) (Inv := InvL ops strict ap M c) listed hi (Region.noSelect_spec hsel) (fun ch _ _ hh => absurd hh (hp ch _ _)) (fun l w hI => hkey w hI.1) (fun l w hI => ⟨fun _ => hI.1, fun hs _ _ hn => hI.2 hs hn⟩) h3 fuel listed a c.w (Region.free_spec hi hfree) (fun _ _ h _ => h)
                    ⟨Sc.refl ap M c, fun _ _ => Sc.refl false M c⟩ (fun j oj hj hne hun hnw hv l w w' _ hS => InvL.step (hlate hlw2 j oj hj hne hun hv) hS) hmem (.inl ⟨hwt, fun w hw => hrun w hw⟩) hrest
                · rcases hrow with hrow | ⟨⟨hst, hnap⟩, hapw⟩
                  · exact absurd hrow hq2
                  have hkey : ∀ w, Sc false M c w → w.heap[b]? = c.w.heap[b]? := fun w hSw => hSw.2 b hb (fun h => by cases h) hMout
                  exact wpAnyD_firstV (S0 := fun w => w.heap[b]? = c.w.heap[b]?) (Inv := fun l w => InvL ops strict ap M c l w ∧ ∀ k, isApp ops k = true → l.getD k true = false) listed hi (Region.noSelect_spec hsel) (fun ch _ _ hh => absurd hh (hp ch _ _)) (fun l w hI => hkey w (hI.1.2 hst hI.2)) (fun l w hI => ⟨fun _ => hI.1.1, fun hs _ _ hn => hI.1.2 hs hn⟩) h3 fuel listed a c.w (Region.free_spec hi hfree) (fun _ _ h _ => h)
                    ⟨⟨Sc.refl ap M c, fun _ _ => Sc.refl false M c⟩, noApp_spec hnap⟩ (fun j oj hj hne hun hnw hv l w w' hI hS => ⟨InvL.step (hlate hlw2 j oj hj hne hun hv) hS, fun k hk => by
                      have hjk : j ≠ k := by
                        rintro rfl
                        obtain ⟨e, he, hb, hon⟩ := appWait_spec hapw j oj hj hne hun hk
                        exact hnw e he hb hon
                      rw [getD_set_ne true hjk]
                      exact hI.2 k hk⟩) hmem (.inl ⟨hwt, fun w hw => hrun w hw⟩) hrest
            · cases h1
          · exact free (.inr ⟨hwt, rfl⟩) (hr1.put (a := a) (undef_rel c)) h1
        · cases h
      · split at h
        · split at h
          · rename_i o hi
            have hfo := hfx o (opMem hi)
            refine ⟨fun h0 => (by rw [hrd] at h0; cases h0), fun j hj => ?_⟩
            rw [hrd] at hj
            have hj0 : j = i0 := by simpa using hj
            subst hj0
            unfold wpOp
            simp only [hi]
            rcases guarded_some hr h with ⟨st1, hr1, hwt, h1⟩ | ⟨st1, hr1, hwt, h1⟩
            · rw [if_pos hwt]
              have done : ∀ {v : AV} {y : Value} {c' : Cx} {st' : St}, evAny tb ops strict ap M fuel (listed.setIfInBounds j true) (st'.put o.dst v) Kc = some r → Rel c' st' a.tmps → avRel c' v y → Step c c' → TameM ap M c c' → (strict = true → TameM false M c c') → SD ops strict ap M c listed j c'.w ∧ wpAnyD P .any ops Q (SD ops strict ap M c) fuel (listed.setIfInBounds j true) (a.put o.dst y) c'.w := by
                intro v y c' st' k1 k2 k3 k4 k5 k6
                refine ⟨SD.of_tame k5 k6 ⟨fun _ => Sc.refl ap M c', fun _ _ _ _ => Sc.refl false M c'⟩, wpAnyD_mono _ _ _ _ (fun j o _ _ l w hS => SD.of_tame k5 k6 hS) (evAny_goes htb hp hsel hfx (k2.put (a := a) k3) k1 fun a' c2 st2 g1 g2 g3 g4 => ?_)⟩
                exact hq a' c2 st2 g1 g2 (k4.trans g3) (g4.trans (Kp.put hfo _ _))
              split at h1
              · refine .inl ?_
                refine evCallInF_goes (ap := false) htb hr1 h1 _ _ fun v y c' st' k1 k2 k3 k4 k5 => ?_
                exact done k1 k2 k3 k4 (k5.weaken ap) fun _ => k5
              split at h1
              · rename_i hcond
                simp only [Bool.and_eq_true] at hcond
                refine .inl (store_in htb hcond.2 hr1 h1 _ _ fun v y c' st' k1 k2 k3 k4 k5 => ?_)
                exact done k1 k2 k3 k4 (k5.weaken ap) fun _ => k5
              split at h1
              · rename_i hcond
                refine .inl ?_
                have ht := hcond
                cases hisA0 : isAppend o with
                | false =>
                  refine evOpF_tame htb (tameOk_weak ht hisA0) hr1 h1 _ _ fun v y c' st' k1 k2 k3 k4 k5 => ?_
                  exact done k1 k2 k3 k4 (k5.weaken ap) fun _ => k5
                | true =>
                  have hisA : isApp ops j = true := by
                    have h9 : isApp ops j = isAppend o := by unfold isApp; rw [hi]
                    rw [h9]; exact hisA0
                  refine evOpF_tame htb ht hr1 h1 _ _ fun v y c' st' k1 k2 k3 k4 k5 => ?_
                  refine ⟨⟨fun _ => Sc.of_tame k5 (Sc.refl ap M c'), fun _ _ h9 => (by rw [hisA] at h9; cases h9)⟩, wpAnyD_monoL _ _ _ _ (fun j2 o2 hj2 hun l w hlk hS => ⟨fun hl => Sc.of_tame k5 (hS.1 hl), fun _ hl h9 hno => ?_⟩) (evAny_goes htb hp hsel hfx (k2.put (a := a) k3) k1 fun a' c2 st2 g1 g2 g3 g4 => ?_)⟩
                  · have := hno j hisA
                    rw [hlk j set_listed] at this
                    cases this
                  · exact hq a' c2 st2 g1 g2 (k4.trans g3) (g4.trans (Kp.put hfo _ _))
              split at h1
              · rename_i hcond
                refine .inl ?_
                have hc2 : lateOp ops j = true ∧ allLate ops (listed.setIfInBounds j true) = true := by simpa using hcond
                refine evOp_goes htb hr1 h1 _ _ fun v y c' st' k1 k2 k3 k4 => ?_
                refine ⟨⟨fun h0 => (by rw [hc2.1] at h0; cases h0), fun _ h0 => (by rw [hc2.1] at h0; cases h0)⟩, wpAnyD_mono (S := SD ops strict ap M c') _ _ _ _ (fun j2 o2 hj2 hun l w _ => ⟨fun h0 => ?_, fun _ h0 => ?_⟩) (evAny_goes htb hp hsel hfx (k2.put (a := a) k3) k1 fun a' c2 st2 g1 g2 g3 g4 => ?_)⟩
                · rw [allLate_spec hc2.2 j2 o2 hj2 hun] at h0; cases h0
                · rw [allLate_spec hc2.2 j2 o2 hj2 hun] at h0; cases h0
                · exact hq a' c2 st2 g1 g2 (k4.trans g3) (g4.trans (Kp.put hfo _ _))
              · cases h1
            · rw [if_neg (by rw [hwt]; simp)]
              exact ⟨⟨fun _ => Sc.refl ap M c, fun _ _ _ _ => Sc.refl false M c⟩, evAny_goes htb hp hsel hfx (hr1.put (a := a) (undef_rel c)) h1 fun a' c' st' k1 k2 k3 k4 => hq a' c' st' k1 k2 k3 (k4.trans (Kp.put hfo _ _))⟩
          · cases h
        · cases h

end
end Go.Proofs.Ytdacfaincamliaa.Ev
