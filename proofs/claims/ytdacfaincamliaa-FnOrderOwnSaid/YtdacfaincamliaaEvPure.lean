/- The evaluator's steps that leave memory alone are true of the machine. Conditions: none. -/
import Derived.Test.YtdacfaincamliaaEvRel
import Derived.WalkKit
import Derived.Laws.StructEq
namespace Go.Proofs.Ytdacfaincamliaa.Ev
open Go Go.RowKit

/-- What the table says of a type is so. -/
structure TI.ok (P : Program) (t : TypeId) (i : TI) : Prop where
  under : P.underlying t = some i.desc
  info : ∃ f z, P.info? t = some f ∧ f.size = i.size ∧ f.bytes = i.bytes ∧ f.zero = some z ∧ z.cells.toList = i.zero
  zlen : i.zero.length = i.size
  zone : ∀ x ∈ i.zero, x.oneCell' = true
  one : i.isAgg = false → i.size = 1
  ty : ∀ ty, i.ty = some ty → ty.sz = i.size
  eqv : i.eqv = true → P.stoodInHeld t = false ∧ P.eqGuardType P.depth t = false

section
variable {P : Program} {c : Cx} {st : St} {tmps : Array Value} {R : Type} {a : Act}

theorem Rel.get (h : Rel c st tmps) (d : Nat) : avRel c (st.env.getD d .dead) (tmps.getD d undef) := by
  have := h.env.getD d AV.dead undef trivial
  rwa [show tmps.toList.getD d undef = tmps.getD d undef by simp [List.getD_eq_getElem?_getD, Array.getD_eq_getD_getElem?]] at this

theorem all2_v (c : Cx) : ∀ (l : List Value), (∀ x ∈ l, x.oneCell' = true) → All2 (leafRel c) (l.map .v) l
  | [], _ => trivial
  | x :: r, h => ⟨⟨rfl, h x (by simp)⟩, all2_v c r fun y hy => h y (by simp [hy])⟩

theorem constV_rel (c : Cx) (x : Value) : avRel c (constV x) x := by
  cases x with
  | agg cs =>
    simp only [constV]
    split
    · rename_i h
      exact ⟨cs, rfl, all2_v c _ fun x hx => List.all_eq_true.mp h x hx⟩
    · trivial
  | tuple vs => trivial
  | func f first captured =>
    cases f with
    | func f =>
      simp only [constV]
      split
      · rename_i h
        obtain ⟨h1, h2⟩ := h
        obtain rfl := Array.size_eq_zero_iff.mp h1
        obtain rfl := Array.size_eq_zero_iff.mp h2
        exact ⟨#[], rfl, trivial⟩
      · trivial
    | _ => trivial
  | _ => exact ⟨rfl, rfl⟩

theorem Rel.ev (h : Rel c st a.tmps) (x : Operand) : avRel c (st.ev x) (a.eval x) := by
  cases x with
  | tmp t => exact h.get t
  | const x => exact constV_rel c x
  | global g => trivial
  | func f => exact ⟨#[], rfl, trivial⟩

theorem Rel.put (h : Rel c st a.tmps) {dst : Option Nat} {v : AV} {y : Value} (hv : avRel c v y) : Rel c (st.put dst v) (a.put dst y).tmps := by
  cases dst with
  | none => exact h
  | some d =>
    refine ⟨h.s, ?_⟩
    simp only [St.put, Act.put, Array.toList_setIfInBounds]
    exact h.env.set d hv

/-- An operation goes as the evaluator says. -/
def OpGoes (P : Program) (o : Oper) (c : Cx) (a : Act) (K : AV → St → Option R) (r : R) : Prop :=
  ∀ (next : Act → World → Prop) (Q : Exit → Act → World → Prop),
    (∀ v y c' st', K v st' = some r → Rel c' st' a.tmps → avRel c' v y → Step c c' → next (a.put o.dst y) c'.w) → o.wp P a c.w next Q

/-- What a step leaves as it was: all old blocks; or (ap) all but those of the call's own rows. -/
structure TameM (ap : Bool) (M : List Nat) (c c' : Cx) : Prop where
  size : c.w.heap.size ≤ c'.w.heap.size
  old : ∀ k, k < c.w.heap.size → (ap = true → ∀ i, i ∈ c.D → oBlk (c.ρ i) ≠ some k) → (∀ i, i ∈ M → i ∈ c.D → ¬ c.ow i k) → c'.w.heap[k]? = c.w.heap[k]?
  rows : ∀ i, i ∈ c'.D → ∀ g, oBlk (c'.ρ i) = some g → g < c.w.heap.size → (∃ j, j ∈ c.D ∧ oBlk (c.ρ j) = some g) ∨ ∃ j, j ∈ M ∧ j ∈ c.D ∧ c.ow j g
  mu : ∀ i, i ∈ M → i ∈ c'.D → ∀ g, c'.ow i g → g < c.w.heap.size → ∃ j, j ∈ M ∧ j ∈ c.D ∧ c.ow j g
  bT : ∀ k, c'.T k → k < c.w.heap.size → c.T k ∨ ∃ i, i ∈ c.D ∧ c.ow i k
  bO : ∀ i, i ∈ c'.D → ∀ g, c'.ow i g → g < c.w.heap.size → ∃ j, j ∈ c.D ∧ c.ow j g
/-- So, whatever may be written besides. -/
def Tame (ap : Bool) (c c' : Cx) : Prop := ∀ M, TameM ap M c c'

theorem TameM.refl (ap : Bool) (M : List Nat) (c : Cx) : TameM ap M c c := ⟨Nat.le_refl _, fun _ _ _ _ => rfl, fun i hi g hg _ => .inl ⟨i, hi, hg⟩, fun i hM hi g hg _ => ⟨i, hM, hi, hg⟩, fun _ h _ => .inl h, fun i hi _ hg _ => ⟨i, hi, hg⟩⟩
theorem Tame.refl (ap : Bool) (c : Cx) : Tame ap c c := fun M => TameM.refl ap M c
theorem TameM.trans {ap : Bool} {M : List Nat} {a b c : Cx} (h : TameM ap M a b) (k : TameM ap M b c) : TameM ap M a c := by
  refine ⟨Nat.le_trans h.size k.size, fun j hj hr hm => ?_, fun i hi g hg hlt => ?_, fun i hM hi g hg hlt => ?_, fun j hj hlt => ?_, fun i hi g hg hlt => ?_⟩
  · rw [k.old j (Nat.lt_of_lt_of_le hj h.size) (fun hap i hi hb => by
      rcases h.rows i hi j hb hj with ⟨i', h1, h2⟩ | ⟨i', h1, h2, h3⟩
      · exact hr hap i' h1 h2
      · exact hm i' h1 h2 h3) (fun i hM hi hb => by
      obtain ⟨i', h1, h2, h3⟩ := h.mu i hM hi j hb hj
      exact hm i' h1 h2 h3)]
    exact h.old j hj hr hm
  · rcases k.rows i hi g hg (Nat.lt_of_lt_of_le hlt h.size) with ⟨i', h1, h2⟩ | ⟨i', h1, h2, h3⟩
    · exact h.rows i' h1 g h2 hlt
    · exact .inr (h.mu i' h1 h2 g h3 hlt)
  · obtain ⟨i', h1, h2, h3⟩ := k.mu i hM hi g hg (Nat.lt_of_lt_of_le hlt h.size)
    exact h.mu i' h1 h2 g h3 hlt
  · rcases k.bT j hj (Nat.lt_of_lt_of_le hlt h.size) with h1 | ⟨i', h1, h2⟩
    · exact h.bT j h1 hlt
    · exact .inr (h.bO i' h1 j h2 hlt)
  · obtain ⟨i', h1, h2⟩ := k.bO i hi g hg (Nat.lt_of_lt_of_le hlt h.size)
    exact h.bO i' h1 g h2 hlt
theorem Tame.trans {ap : Bool} {a b c : Cx} (h : Tame ap a b) (k : Tame ap b c) : Tame ap a c := fun M => (h M).trans (k M)
theorem Tame.later {ap : Bool} {c c' : Cx} (hw : c'.w = c.w) (hD : ∀ i, i ∈ c'.D → i ∈ c.D) (hρ : ∀ i, i ∈ c'.D → c'.ρ i = c.ρ i) (hX : ∀ i g, i ∈ c'.D → c'.ow i g → c.ow i g) (hT : ∀ k, c'.T k → c.T k ∨ ∃ i, i ∈ c.D ∧ c.ow i k) : Tame ap c c' := fun M =>
  ⟨by rw [hw]; exact Nat.le_refl _, fun _ _ _ _ => by rw [hw], fun i hi g hg _ => .inl ⟨i, hD i hi, by rw [← hρ i hi]; exact hg⟩, fun i hM hi g hg _ => ⟨i, hM, hD i hi, hX i g hi hg⟩, fun k hk _ => hT k hk, fun i hi g hg _ => ⟨i, hD i hi, hX i g hi hg⟩⟩
theorem TameM.weaken {M : List Nat} {c c' : Cx} (h : TameM false M c c') (ap : Bool) : TameM ap M c c' := ⟨h.size, fun k hk _ hm => h.old k hk (fun h => by cases h) hm, h.rows, h.mu, h.bT, h.bO⟩
theorem Tame.weaken {c c' : Cx} (h : Tame false c c') (ap : Bool) : Tame ap c c' := fun M => (h M).weaken ap

theorem ownBlock_blk {v : Value} {g : Nat} (h : oBlk v = some g) : blk v = some g := by
  cases v with
  | slice A n m => cases A with | none => cases h | some a => cases m with | zero => cases h | succ m => exact h
  | _ => cases h

/-- An operation goes as the evaluator says, and leaves what was as it was. -/
def OpGoesT (P : Program) (o : Oper) (c : Cx) (a : Act) (K : AV → St → Option R) (r : R) (ap : Bool) : Prop :=
  ∀ (next : Act → World → Prop) (Q : Exit → Act → World → Prop),
    (∀ v y c' st', K v st' = some r → Rel c' st' a.tmps → avRel c' v y → Step c c' → Tame ap c c' → next (a.put o.dst y) c'.w) → o.wp P a c.w next Q
theorem OpGoesT.goes {o : Oper} {K : AV → St → Option R} {r : R} {ap : Bool} (h : OpGoesT P o c a K r ap) : OpGoes P o c a K r :=
  fun next Q hn => h next Q fun v y c' st' h1 h2 h3 h4 _ => hn v y c' st' h1 h2 h3 h4

theorem wp_val {o : Oper} {w w' : World} {y : Value} {next : Act → World → Prop} {Q : Exit → Act → World → Prop} (h : (execOp a.eval o).run P w = .ok (.value y) w') (hk : next (a.put o.dst y) w') : o.wp P a w next Q := by
  unfold Oper.wp
  rw [h]
  exact hk

/-- An operation that yields its value in whatever world. -/
def Quiet (P : Program) (o : Oper) (c : Cx) (a : Act) (st : St) (K : AV → St → Option R) (r : R) : Prop :=
  ∃ v y, (∀ w, (execOp a.eval o).run P w = .ok (.value y) w) ∧ K v st = some r ∧ avRel c v y

theorem goes_quiet {o : Oper} {K : AV → St → Option R} {r : R} {v : AV} {y : Value} (_ : Rel c st a.tmps) (h : ∀ w, (execOp a.eval o).run P w = .ok (.value y) w) (hk : K v st = some r) (hv : avRel c v y) : Quiet P o c a st K r :=
  ⟨v, y, h, hk, hv⟩

theorem Quiet.goesT {o : Oper} {K : AV → St → Option R} {r : R} (h : Quiet P o c a st K r) (hr : Rel c st a.tmps) (ap : Bool) : OpGoesT P o c a K r ap := by
  obtain ⟨v, y, h, hk, hv⟩ := h
  exact fun _ _ hn => wp_val (h c.w) (hn v y c st hk hr hv (Step.refl c) (Tame.refl ap c))

theorem Quiet.goes {o : Oper} {K : AV → St → Option R} {r : R} (h : Quiet P o c a st K r) (hr : Rel c st a.tmps) : OpGoes P o c a K r := by
  obtain ⟨v, y, h, hk, hv⟩ := h
  exact fun _ _ hn => wp_val (h c.w) (hn v y c st hk hr hv (Step.refl c))

theorem goes_move {o : Oper} {K : AV → St → Option R} {r : R} {x : Operand} (ho : o.op = .move x ∨ o.op = .assign x) (hr : Rel c st a.tmps) (h : K (st.ev x) st = some r) : Quiet P o c a st K r := by
  refine goes_quiet hr (fun w => ?_) h (hr.ev x)
  unfold execOp
  rcases ho with ho | ho <;> rw [ho] <;> rfl

theorem boolOf_some {v : AV} {K : Bool → Option R} {r : R} (h : boolOf v K = some r) : ∃ b, v = .bool b ∧ K b = some r := by
  unfold boolOf at h
  split at h
  · exact ⟨_, rfl, h⟩
  · cases h
theorem intOf_some {v : AV} {K : IntKind → Int → Option R} {r : R} (h : intOf v K = some r) : ∃ k n, v = .int k n ∧ K k n = some r := by
  unfold intOf at h
  split at h
  · exact ⟨_, _, rfl, h⟩
  · cases h
theorem av_v {x y : Value} (h : avRel c (.v x) y) : y = x := h.1

theorem goes_pick {o : Oper} {K : AV → St → Option R} {r : R} {x u v : Operand} (ho : o.op = .pick x u v) (hr : Rel c st a.tmps)
    (h : (boolOf (st.ev x) fun t => cond t (K (st.ev u) st) (K (st.ev v) st)) = some r) : Quiet P o c a st K r := by
  obtain ⟨b, hb, h⟩ := boolOf_some h
  have hx := hr.ev x
  rw [hb] at hx
  have hx := av_v hx
  have hrun : ∀ w, (execOp a.eval o).run P w = .ok (.value (if b then a.eval u else a.eval v)) w := by
    intro w
    unfold execOp
    rw [ho]
    simp [hx, asBool]
  cases b with
  | true => exact goes_quiet hr hrun h (hr.ev u)
  | false => exact goes_quiet hr hrun h (hr.ev v)

theorem binV_run {op : BinOp} {t : TypeId} {x y : Value} {K : Value → Option R} {r : R} (h : binV op x y K = some r) :
    ∃ z, (∀ w, (binOp op t x y).run P w = .ok z w) ∧ K z = some r ∧ z.oneCell' = true := by
  unfold binV at h
  split at h
  · rename_i k n k' n' _
    split at h
    · split at h
      · cases h
      · rename_i hb
        exact ⟨_, fun w => by simp [binOp, Op.shift, hb], h, rfl⟩
    · split at h
      · cases h
      · rename_i hb
        exact ⟨_, fun w => by simp [binOp, Op.shift, hb], h, rfl⟩
    · split at h
      · rename_i hk
        subst hk
        split at h
        · exact ⟨_, fun w => by simp [binOp, Op.intArith], h, rfl⟩
        · exact ⟨_, fun w => by simp [binOp, Op.intArith], h, rfl⟩
        · exact ⟨_, fun w => by simp [binOp, Op.intArith], h, rfl⟩
        · split at h
          · cases h
          · rename_i hb
            exact ⟨_, fun w => by simp [binOp, Op.intDiv, hb], h, rfl⟩
        · split at h
          · cases h
          · rename_i hb
            exact ⟨_, fun w => by simp [binOp, Op.intDiv, hb], h, rfl⟩
        · exact ⟨_, fun w => by simp [binOp, Op.intCmp], h, rfl⟩
        · exact ⟨_, fun w => by simp [binOp, Op.intCmp], h, rfl⟩
        · exact ⟨_, fun w => by simp [binOp, Op.intCmp], h, rfl⟩
        · exact ⟨_, fun w => by simp [binOp, Op.intCmp], h, rfl⟩
        · exact ⟨_, fun w => by simp [binOp, Op.intCmp], h, rfl⟩
        · exact ⟨_, fun w => by simp [binOp, Op.intCmp], h, rfl⟩
        · exact ⟨_, fun w => by simp [binOp, Op.intBits], h, rfl⟩
        · exact ⟨_, fun w => by simp [binOp, Op.intBits], h, rfl⟩
        · exact ⟨_, fun w => by simp [binOp, Op.intBits], h, rfl⟩
        · exact ⟨_, fun w => by simp [binOp, Op.intBits], h, rfl⟩
        · cases h
      · cases h
  · rename_i s u _
    split at h
    · split at h
      · rename_i hl
        refine ⟨_, fun w => ?_, h, rfl⟩
        simp only [binOp, Op.stringOp]
        rw [if_neg (by rw [show IntKind.i64.max = 9223372036854775807 from by decide]; omega)]
        rfl
      · cases h
    · exact ⟨_, fun w => by simp [binOp, Op.stringOp], h, rfl⟩
    · exact ⟨_, fun w => by simp [binOp, Op.stringOp], h, rfl⟩
    · cases h
  · cases h

structure Tb.ok0 (P : Program) (tb : Tb) : Prop where
  ti : ∀ t i, tb.ti t = some i → TI.ok P t i

theorem tiOf_ok {t : TypeId} {i : TI} (h : tiOf P t = some i) : TI.ok P t i := by
  unfold tiOf at h
  split at h
  · rename_i d f hd hf
    split at h
    · rename_i z hz
      simp only at h
      split at h
      · rename_i hc
        obtain ⟨h1, h2, h3⟩ := hc
        injection h with h
        subst h
        refine ⟨hd, ⟨f, z, hf, rfl, rfl, hz, rfl⟩, h1, List.all_eq_true.mp h2, fun ha => ?_, fun ty hty => ?_, fun h => by simpa using h⟩
        · rcases h3 with h3 | h3
          · rw [ha] at h3; cases h3
          · exact h3
        · have hty : tyIf P t f.size = some ty := hty
          unfold tyIf at hty
          split at hty
          · split at hty
            · rename_i hs
              injection hty with hty
              rw [← hty]
              exact hs
            · cases hty
          · cases hty
      · cases h
    · cases h
  · cases h

theorem equal_bool {t : TypeId} (hu : P.underlying t = some .bool) {b b' : Bool} {w : World} : (Op.equal t (.bool b) (.bool b')).run P w = .ok (b == b') w := by
  unfold Op.equal
  obtain ⟨d, hd⟩ : ∃ d, Op.maxDepth = d + 1 := ⟨9999, rfl⟩
  rw [hd]
  simp only [Op.equalIn, Sem.run_bind, run_underlying hu, Result.andThen_ok, Sem.run_pure]

theorem binV2_run {tb : Tb} (htb : tb.ok0 P) {op : BinOp} {t : TypeId} {x y : Value} {K : Value → Option R} {r : R} (h : binV2 tb op t x y K = some r) :
    ∃ z, (∀ w, (binOp op t x y).run P w = .ok z w) ∧ K z = some r ∧ z.oneCell' = true ∧ (∀ cs, x ≠ .agg cs) ∧ x ≠ .nilIface := by
  unfold binV2 at h
  split at h
  · rename_i b b' _
    split at h
    · rename_i hd
      obtain ⟨i, hi, hd⟩ := Option.map_eq_some_iff.mp hd
      have hu := (htb.ti t i hi).under
      rw [hd] at hu
      split at h
      · exact ⟨_, fun w => by simp only [binOp, Sem.run_bind, equal_bool hu, Result.andThen_ok, Sem.run_pure], h, rfl, by simp, by simp⟩
      · exact ⟨_, fun w => by simp only [binOp, Sem.run_bind, equal_bool hu, Result.andThen_ok, Sem.run_pure], h, rfl, by simp, by simp⟩
      · cases h
    · cases h
  · obtain ⟨z, h1, h2, h3⟩ := binV_run (P := P) (t := t) h
    refine ⟨z, h1, h2, h3, ?_, ?_⟩ <;> intro e <;> (try intro e') <;> (first | subst e | subst e') <;> simp [binV] at h

theorem unV_run {op : UnOp} {x : Value} {K : Value → Option R} {r : R} (h : unV op x K = some r) :
    ∃ z, (∀ w, (Op.unary op x).run P w = .ok z w) ∧ K z = some r ∧ z.oneCell' = true := by
  unfold unV at h
  split at h
  · split at h
    · exact ⟨_, fun w => by simp [Op.unary], h, rfl⟩
    · cases h
  · split at h
    · exact ⟨_, fun w => by simp [Op.unary, Op.intArith], h, rfl⟩
    · cases h
  · cases h

theorem isAgg_run {t : TypeId} {i : TI} (h : TI.ok P t i) {w : World} : (isAgg t).run P w = .ok i.isAgg w := by
  unfold isAgg
  simp only [Sem.run_bind, run_underlying h.under, Result.andThen_ok]
  unfold TI.isAgg
  split <;> simp_all

theorem eqF1_run {xs ys : List Leaf} {cx cy : Array Value} (hx : All2 (leafRel c) xs cx.toList) (hy : All2 (leafRel c) ys cy.toList) {f : Field} {i : TI} (hi : TI.ok P f.type i) (d : Nat) {q : Bool} (h : eqF1 i.desc xs[f.offset]? ys[f.offset]? = some q) :
    ∃ u v, (∀ w, (part f.type cx f.offset).run P w = .ok u w) ∧ (∀ w, (part f.type cy f.offset).run P w = .ok v w) ∧ ∀ w, (Op.equalIn (d + 1) f.type u v).run P w = .ok q w := by
  have part0 : i.isAgg = false → ∀ {cs : Array Value} {u : Value} (w : World), cs.toList[f.offset]? = some u → (part f.type cs f.offset).run P w = .ok u w := by
    intro ha cs u w hu
    have hag : (isAgg f.type).run P w = .ok false w := by
      have := isAgg_run hi (w := w)
      rw [ha] at this
      exact this
    unfold part
    simp only [Sem.run_bind, hag, Result.andThen_ok, Bool.false_eq_true, if_false]
    rw [← Array.getElem?_toList, hu]
    rfl
  have hu := hi.under
  unfold eqF1 at h
  split at h
  · rename_i kk hd
    have ha : i.isAgg = false := by unfold TI.isAgg; rw [hd]
    rw [hd] at hu
    split at h
    · rename_i k a k' b ea eb
      split at h
      · rename_i hk
        subst hk
        injection h with h
        subst h
        obtain ⟨u, e1, r1, _⟩ := hx.get _ _ ea
        obtain ⟨v, e2, r2, _⟩ := hy.get _ _ eb
        subst r1 r2
        exact ⟨_, _, fun w => part0 ha w e1, fun w => part0 ha w e2, fun w => run_equalIn_int w d f.type k kk a b hu⟩
      · cases h
    · cases h
  · rename_i hd
    have ha : i.isAgg = false := by unfold TI.isAgg; rw [hd]
    rw [hd] at hu
    split at h
    · rename_i a b ea eb
      injection h with h
      subst h
      obtain ⟨u, e1, r1, _⟩ := hx.get _ _ ea
      obtain ⟨v, e2, r2, _⟩ := hy.get _ _ eb
      subst r1 r2
      exact ⟨_, _, fun w => part0 ha w e1, fun w => part0 ha w e2, fun w => run_equalIn_bool' w d f.type a b hu⟩
    · cases h
  · rename_i hd
    have ha : i.isAgg = false := by unfold TI.isAgg; rw [hd]
    rw [hd] at hu
    split at h
    · rename_i a b ea eb
      injection h with h
      subst h
      obtain ⟨u, e1, r1, _⟩ := hx.get _ _ ea
      obtain ⟨v, e2, r2, _⟩ := hy.get _ _ eb
      subst r1 r2
      exact ⟨_, _, fun w => part0 ha w e1, fun w => part0 ha w e2, fun w => run_equalIn_string w d f.type a b hu⟩
    · cases h
  · cases h

theorem eqFs_run {tb : Tb} (htb : tb.ok0 P) {xs ys : List Leaf} {cx cy : Array Value} (hx : All2 (leafRel c) xs cx.toList) (hy : All2 (leafRel c) ys cy.toList) (d : Nat) : ∀ {fs : List Field} {K : Bool → Option R} {r : R}, eqFs tb xs ys fs K = some r →
    ∃ b, K b = some r ∧ ∀ w, (Op.eqFields (d + 1) cx cy fs).run P w = .ok b w
  | [], K, r, h => ⟨true, h, fun w => by simp [Op.eqFields]⟩
  | f :: fs, K, r, h => by
    unfold eqFs at h
    split at h
    rotate_left
    · cases h
    rename_i i hi
    split at h
    rotate_left
    · cases h
    rename_i hc
    split at h
    rotate_left
    · cases h
    rename_i q hq
    obtain ⟨u, v, p1, p2, heq⟩ := eqF1_run hx hy (htb.ti _ _ hi) d hq
    have hn : f.name ≠ "_" := by simpa using hc
    split at h
    · refine ⟨q, h, fun w => ?_⟩
      simp only [Op.eqFields, if_pos hn, Sem.run_bind, p1, p2, heq w, Result.andThen_ok]
      cases q <;> simp
    · obtain ⟨s, k1, k2⟩ := eqFs_run htb hx hy d h
      refine ⟨_, k1, fun w => ?_⟩
      rw [Op.eqFields]
      simp only [if_pos hn, Sem.run_bind, p1, p2, heq w, Result.andThen_ok]
      cases q
      · simp
      · simpa using k2 w

theorem goes_binOp {tb : Tb} (htb : tb.ok0 P) {o : Oper} {K : AV → St → Option R} {r : R} {op : BinOp} {t u : TypeId} {x y : Operand} (ho : o.op = .binOp op t x y u) (hr : Rel c st a.tmps)
    (h : (match st.ev x, st.ev y with | .one (.lf (.v p)), .one (.lf (.v q)) => binV2 tb op t p q fun z => K (.v z) st | .one (.agg xs), .one (.agg ys) => eqAgg tb op t xs ys fun z => K (.v z) st | _, _ => none) = some r) : Quiet P o c a st K r := by
  split at h
  · rename_i p q hp hq
    have h1 := hr.ev x
    have h2 := hr.ev y
    rw [hp] at h1
    rw [hq] at h2
    obtain ⟨z, hz, hk, ho1, hne, hni⟩ := binV2_run htb h
    refine goes_quiet hr (fun w => ?_) hk ⟨rfl, ho1⟩
    unfold execOp
    rw [ho]
    have e1 : a.eval x = p := h1.1
    have e2 : a.eval y = q := h2.1
    have hg : (eqGuard op t x y p q).run P w = .ok () w := by
      unfold eqGuard
      cases p <;> first | (exact absurd rfl (hne _)) | (exact absurd rfl hni) | (split <;> first | rfl | (split <;> rfl))
    simp only [e1, e2, Sem.run_bind, hg, Result.andThen_ok, hz, Sem.run_pure]
  · rename_i xs ys hp hq
    obtain ⟨cx, ex, hx⟩ := (by have := hr.ev x; rw [hp] at this; exact this : v1Rel c (.agg xs) (a.eval x))
    obtain ⟨cy, ey, hy⟩ := (by have := hr.ev y; rw [hq] at this; exact this : v1Rel c (.agg ys) (a.eval y))
    unfold eqAgg at h
    split at h
    rotate_left
    · cases h
    rename_i i hi
    split at h
    rotate_left
    · cases h
    rename_i fs hd
    split at h
    rotate_left
    · cases h
    rename_i hv
    obtain ⟨hs, hgd⟩ := (htb.ti _ _ hi).eqv hv
    have hu := (htb.ti _ _ hi).under
    rw [hd] at hu
    have hf : P.fieldsOf t = fs := by simp [Program.fieldsOf, hu]
    have run : ∀ {b : Bool}, (∀ w, (Op.eqFields (9998 + 1) cx cy fs.toList).run P w = .ok b w) → ∀ w, (Op.equalIn 10000 t (.agg cx) (.agg cy)).run P w = .ok b w := fun hb w => by
      rw [run_equalIn_struct w 9999 t cx cy (by rw [hf]; exact hu) hs, hf]
      exact hb w
    split at h
    · obtain ⟨b, hk, hb⟩ := eqFs_run htb hx hy 9998 h
      refine goes_quiet hr (fun w => ?_) hk ⟨rfl, rfl⟩
      unfold execOp
      rw [ho]
      simp only [ex, ey, Sem.run_bind, run_eqGuard_agg w _ t x y cx cy hgd, Result.andThen_ok, run_eql_struct, run hb w, Sem.run_pure]
    · obtain ⟨b, hk, hb⟩ := eqFs_run htb hx hy 9998 h
      refine goes_quiet hr (fun w => ?_) hk ⟨rfl, rfl⟩
      unfold execOp
      rw [ho]
      simp only [ex, ey, Sem.run_bind, run_eqGuard_agg w _ t x y cx cy hgd, Result.andThen_ok, run_neq_struct, run hb w, Sem.run_pure]
    · cases h
  · cases h

theorem goes_unOp {o : Oper} {K : AV → St → Option R} {r : R} {op : UnOp} {t : TypeId} {x : Operand} (ho : o.op = .unOp op t x) (hr : Rel c st a.tmps)
    (h : (match st.ev x with | .one (.lf (.v p)) => unV op p fun z => K (.v z) st | _ => none) = some r) : Quiet P o c a st K r := by
  split at h
  · rename_i p hp
    have h1 := hr.ev x
    rw [hp] at h1
    obtain ⟨z, hz, hk, ho1⟩ := unV_run (P := P) h
    refine goes_quiet hr (fun w => ?_) hk ⟨rfl, ho1⟩
    unfold execOp
    rw [ho]
    have e1 : a.eval x = p := h1.1
    simp only [e1, Sem.run_bind, hz, Result.andThen_ok, Sem.run_pure]
  · cases h

theorem goes_convert {tb : Tb} (htb : tb.ok0 P) {o : Oper} {K : AV → St → Option R} {r : R} {s d : TypeId} {x : Operand} (ho : o.op = .convert s d x) (hr : Rel c st a.tmps)
    (h : (match tb.ti s, tb.ti d with
    | some i, some j => match i.desc, j.desc with | .int _, .int k => intOf (st.ev x) fun _ n => K (.int k (k.wrap n)) st | _, _ => none
    | _, _ => none) = some r) : Quiet P o c a st K r := by
  split at h
  · rename_i i j hi hj
    split at h
    · rename_i k' k hdi hdj
      obtain ⟨k2, n, hv, hk⟩ := intOf_some h
      have h1 := hr.ev x
      rw [hv] at h1
      have e1 : a.eval x = .int k2 n := h1.1
      have u1 := (htb.ti _ _ hi).under
      have u2 := (htb.ti _ _ hj).under
      rw [hdi] at u1
      rw [hdj] at u2
      refine goes_quiet hr (fun w => ?_) hk ⟨rfl, rfl⟩
      unfold execOp
      rw [ho]
      simp [e1, convert, run_underlying u1, run_underlying u2, Conv.intToInt]
    · cases h
  · cases h

end
end Go.Proofs.Ytdacfaincamliaa.Ev
