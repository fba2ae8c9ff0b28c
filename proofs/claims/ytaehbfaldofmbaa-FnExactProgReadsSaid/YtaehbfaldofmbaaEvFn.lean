/- The evaluator's calls, out of functions' signatures. Conditions: none. -/
import Derived.Test.YtaehbfaldofmbaaEvCall
namespace Go.Proofs.Ytaehbfaldofmbaa.Ev
open Go Go.RowKit

section
variable {P : Program} {R : Type} {tb : Tb} {c : Cx} {st : St} {r : R}

/-! ### Results -/
theorem evLoad_ptr {t : TypeId} {p : AV} {K' : AV → Option R} {y : Value} (h : evLoad tb t p st K' = some r) (hp : avRel c p y) : ∃ ad, y = .pointer (some ad) := by
  unfold evLoad at h
  split at h
  · cases h
  · simp only at h
    split at h
    · obtain ⟨_, g, _, h1⟩ := hp; exact ⟨_, h1⟩
    · obtain ⟨_, g, n, m, _, h1⟩ := hp; exact ⟨_, h1⟩
    · obtain ⟨ad, h1, _⟩ := hp; exact ⟨ad, h1⟩
    · cases h

def resOne (tmps : Array Value) : ResultVar → Sem Value
  | .tmp t => pure (tmps.getD t undef)
  | .cell a t => do loadVar t (← asAddr (tmps.getD a undef))

theorem evRes_run (htb : tb.ok0 P) {tmps : Array Value} (hr : Rel c st tmps) : ∀ {rs : List ResultVar} {K : List V1 → Option R}, evRes tb rs st K = some r →
    ∃ vs ys, K vs = some r ∧ (rs.mapM (resOne tmps)).run P c.w = .ok ys c.w ∧ All2 (v1Rel c) vs ys
  | [], K, h => ⟨[], [], h, by simp [List.mapM_nil], trivial⟩
  | .tmp t :: rs, K, h => by
    unfold evRes at h
    have hg := hr.get t
    split at h
    · rename_i v hv
      rw [hv] at hg
      obtain ⟨vs, ys, h1, h2, h3⟩ := evRes_run htb hr h
      exact ⟨v :: vs, _ :: ys, h1, by simp [List.mapM_cons, resOne, h2], hg, h3⟩
    · cases h
  | .cell a t :: rs, K, h => by
    unfold evRes at h
    have hg := hr.get a
    obtain ⟨ad, had⟩ := evLoad_ptr h hg
    obtain ⟨v, x, _, _, h1, h2, h3, _⟩ := evLoad_some htb h hr.s hg
    have h1 := h1 c.w rfl
    cases v with
    | one v =>
      obtain ⟨vs, ys, k1, k2, k3⟩ := evRes_run htb hr h2
      refine ⟨v :: vs, x :: ys, k1, ?_, h3, k3⟩
      rw [had] at h1
      simp only [Instr.loadAt, Instr.sureAddr, Sem.run_bind, Sem.run_pure, Result.andThen_ok] at h1
      simp [List.mapM_cons, resOne, had, asAddr, h1, k2]
    | tup _ => cases h2
    | fn _ _ => cases h2
    | dead => cases h2

def mkRes (ys : List Value) : Value := match ys with | [y] => y | ys => .tuple ys.toArray

theorem results_run {fn : Func} {tmps : Array Value} {w : World} {ys : List Value} (h : (fn.results.toList.mapM (resOne tmps)).run P w = .ok ys w) : (results fn tmps).run P w = .ok (mkRes ys) w := by
  have : (fn.results.mapM (resOne tmps)).run P w = .ok ys.toArray w := by
    rw [Array.mapM_eq_mapM_toList]
    simp [h]
  have e : (results fn tmps) = (fn.results.mapM (resOne tmps) >>= fun vs => pure (if h : vs.size = 1 then vs[0] else .tuple vs)) := by
    unfold results
    congr 1
  rw [e, Sem.run_bind, this]
  simp only [Result.andThen_ok, Sem.run_pure]
  match ys with
  | [] => rfl
  | [y] => rfl
  | _ :: _ :: _ => simp [mkRes]

theorem resAV_rel {vs : List V1} {ys : List Value} (h : All2 (v1Rel c) vs ys) : avRel c (resAV vs) (mkRes ys) := by
  match vs, ys, h with
  | [], [], _ => exact ⟨#[], rfl, trivial⟩
  | [v], [y], h => exact h.1
  | v :: v' :: vs, y :: y' :: ys, h => exact ⟨_, rfl, by simpa using h⟩
  | [_], _ :: _ :: _, h => exact h.2.elim
  | _ :: _ :: _, [_], h => exact h.2.elim
  | [], _ :: _, h => exact h.elim
  | _ :: _, [], h => exact h.elim

/-- A function's call. -/
theorem evFn_calls (htb : tb.ok P) {f : FuncId} {fn : Func} (hla : ∀ code, fn.body = some code → LpAll tb code) (hf : P.funcs[f]? = some fn) {vs : List V1} {store : List (Nat × Ent)} {K : List V1 → St → Option R} (h : evFn tb fn vs store K = some r)
    {args : Array Value} (hs : SRel c store) (hv : All2 (v1Rel c) vs args.toList) :
    Calls P f args c.w fun e w' => ∃ c' vs' ys st' tmps', e = .returned (mkRes ys) ∧ K vs' st' = some r ∧ Rel c' st' tmps' ∧ All2 (v1Rel c') vs' ys ∧ Step c c' ∧ c'.w = w' := by
  unfold evFn at h
  split at h
  · rename_i code hb
    have hl := hv.length
    have hr : Rel c { env := vs.map AV.one ++ List.replicate (fn.ntmps - vs.length) .undef, store } (args ++ Array.replicate (fn.ntmps - args.size) undef) := by
      refine ⟨hs, ?_⟩
      rw [Array.toList_append, Array.toList_replicate]
      have h1 : All2 (avRel c) (vs.map AV.one) args.toList := All2.map hv
      have h2 : All2 (avRel c) (List.replicate (fn.ntmps - vs.length) AV.undef) (List.replicate (fn.ntmps - args.size) undef) := by
        rw [hl, Array.length_toList]
        exact All2.replicate (undef_rel c) _
      exact h1.append h2
    refine calls_of_wp hf hb (evCode_goes htb code (hla code hb) (a := { tmps := args ++ Array.replicate (fn.ntmps - args.size) undef, defers := [] }) hr h _ fun e st' c' a' h1 h2 h3 h4 => ?_)
    have fin : ∀ {K'}, evRes tb fn.results.toList st' K' = some r → (∀ vs', K' vs' = K vs' st') → bodyPost P fn (fun e w' => ∃ c' vs' ys st' tmps', e = .returned (mkRes ys) ∧ K vs' st' = some r ∧ Rel c' st' tmps' ∧ All2 (v1Rel c') vs' ys ∧ Step c c' ∧ c'.w = w') .normal a' c'.w := by
      intro K' hh hK
      obtain ⟨vs', ys, k1, k2, k3⟩ := evRes_run htb.ok0 h2 hh
      exact ⟨h4, mkRes ys, results_run k2, c', vs', ys, st', a'.tmps, rfl, by rw [← hK]; exact k1, h2, k3, h3, rfl⟩
    cases e with
    | normal => exact fin h1 fun _ => rfl
    | ret => exact fin h1 fun _ => rfl
    | exit id => cases h1
  · cases h

/-! ### Arguments -/
/-- The callee's context. -/
def Cx.inner (c : Cx) : Cx := { D := [], I := c.I, T := fun k => k < c.w.heap.size, w := c.w, ρ := fun _ => undef }

theorem inner_S (need : Bool) (c : Cx) : c.inner.S need = rdS (Md.ofB need) c := by cases need <;> rfl

theorem inner_later {c c' : Cx} (h : Later c c') {l : Leaf} {y : Value} (hl : leafRel c.inner l y) : leafRel c'.inner l y := by
  refine leafRel.move (c := c.inner) (c' := c'.inner) (by show agree _ c.w c'.w; rw [h.w]; exact agree.refl _ _) (fun k hk => h.lt k (h.sub k hk)) (fun k hk => by show k < c'.w.heap.size; rw [h.w]; exact hk) h.step.I (fun i _ hi => by cases hi) hl

theorem readArgs_some {tmps : Array Value} {c0 : Cx} : ∀ {ps : List PK} {vs : List V1} {ys : List Value} {st : St} {c : Cx} {K : pdens ps → St → Option R}, readArgs ps vs st K = some r → Rel c st tmps → Later c0 c → All2 (v1Rel c0) vs ys →
    ∃ xs st' c', K xs st' = some r ∧ Rel c' st' tmps ∧ Later c c' ∧ (∀ i, i ∈ c'.D → i ∈ c.D) ∧ All2 (v1Rel c'.inner) (argVs ps xs) ys
  | [], [], ys, st, c, K, h, hr, h0, ha => by
    cases ys with
    | nil => exact ⟨(), st, c, h, hr, Later.refl hr.s, fun _ h => h, trivial⟩
    | cons _ _ => exact ha.elim
  | .val need agg t :: ps, v :: vs, [], st, c, K, h, hr, h0, ha => ha.elim
  | .val need agg t :: ps, v :: vs, y :: ys, st, c, K, h, hr, h0, ha => by
    simp only [readArgs] at h
    split at h
    · rename_i ls hls
      obtain ⟨hl, hsh⟩ := lvOf_rel hls ha.1
      obtain ⟨x, st1, c1, h1, h2, h3, h4, h5⟩ := readTy_some (c0 := c0) h hr h0 hl
      obtain ⟨xs, st2, c2, k1, k2, k3, k4, k5⟩ := readArgs_some (c0 := c0) h1 h2 (h0.trans h3 h4) ha.2
      refine ⟨(x, xs), st2, c2, k1, k2, h3.trans k3 k4, fun i hi => h4 i (k4 i hi), ?_, k5⟩
      have : v1Rel c1.inner (ofLv agg (leaves need t x)) y := ofLv_rel (leaves_rel need (by rw [inner_S]; exact h5)) hsh
      exact v1Rel.imp (fun l y hl => inner_later k3 hl) this
    · cases h
  | [], _ :: _, _, st, c, K, h, hr, h0, ha => by simp [readArgs] at h
  | .val _ _ _ :: _, [], _, st, c, K, h, hr, h0, ha => by simp [readArgs] at h

/-! ### What is handed back -/
def FB : List RK → List Value → Nat → Prop
  | .fresh _ _ :: rs, y :: ys, g => blk y = some g ∨ FB rs ys g
  | .val _ _ :: rs, _ :: ys, g => FB rs ys g
  | _, _, _ => False

def ResRel (c : Cx) : (rs : List RK) → rdens rs → List Value → Prop
  | [], _, [] => True
  | .val agg t :: rs, x, y :: ys => shape agg y ∧ RdE c.I t c.w x.1 y.cells.toList ∧ ResRel c rs x.2 ys
  | .fresh e t :: rs, x, y :: ys => (∃ inner, c.w.ownsRow 0 e t.sz y x.1.length inner ∧ ∀ j z, x.1[j]? = some z → RdE c.I t c.w z ((inner.drop (j * t.sz)).take t.sz)) ∧ y.oneCell' = true ∧ (∀ g, blk y = some g → ¬ FB rs ys g) ∧ ResRel c rs x.2 ys
  | _, _, _ => False

theorem ResRel.move {c c' : Cx} (hw : c'.w = c.w) (hI : ∀ k, c.I k → c'.I k) : ∀ {rs : List RK} {x : rdens rs} {ys : List Value}, ResRel c rs x ys → ResRel c' rs x ys
  | [], _, [], _ => trivial
  | .val agg t :: rs, x, y :: ys, ⟨h1, h2, h3⟩ => ⟨h1, h2.step (by rw [hw]; exact agree.refl _ _) hI, ResRel.move hw hI h3⟩
  | .fresh e t :: rs, x, y :: ys, ⟨⟨inner, h1, h2⟩, h3, h4, h5⟩ => ⟨⟨inner, by rw [hw]; exact h1, fun j z hz => (h2 j z hz).step (by rw [hw]; exact agree.refl _ _) hI⟩, h3, h4, ResRel.move hw hI h5⟩
  | [], _, _ :: _, h => h.elim
  | .val _ _ :: _, _, [], h => h.elim
  | .fresh _ _ :: _, _, [], h => h.elim

theorem readRes_some {tmps : Array Value} {c0 : Cx} : ∀ {rs : List RK} {vs : List V1} {ys : List Value} {st : St} {c : Cx} {K : rdens rs → St → Option R}, readRes rs vs st K = some r → Rel c st tmps → Later c0 c → All2 (v1Rel c0) vs ys →
    ∃ xs st' c', K xs st' = some r ∧ Rel c' st' tmps ∧ Later c c' ∧ (∀ i, i ∈ c'.D → i ∈ c.D) ∧ ResRel c' rs xs ys ∧ ∀ g, FB rs ys g → ∃ id, id ∈ freshIds rs vs ∧ id ∈ c'.D ∧ blk (c'.ρ id) = some g
  | [], [], ys, st, c, K, h, hr, h0, ha => by
    cases ys with
    | nil => exact ⟨(), st, c, h, hr, Later.refl hr.s, fun _ h => h, trivial, fun g hg => hg.elim⟩
    | cons _ _ => exact ha.elim
  | .val agg t :: rs, v :: vs, y :: ys, st, c, K, h, hr, h0, ha => by
    simp only [readRes] at h
    split at h
    · rename_i ls hls
      obtain ⟨hl, hsh⟩ := lvOf_rel hls ha.1
      obtain ⟨x, st1, c1, h1, h2, h3, h4, h5⟩ := readTy_some (c0 := c0) h hr h0 hl
      obtain ⟨xs, st2, c2, k1, k2, k3, k4, k5, k6⟩ := readRes_some (c0 := c0) h1 h2 (h0.trans h3 h4) ha.2
      refine ⟨(x, xs), st2, c2, k1, k2, h3.trans k3 k4, fun i hi => h4 i (k4 i hi), ⟨hsh, h5.step (by rw [k3.w]; exact agree.refl _ _) k3.step.I, k5⟩, fun g hg => ?_⟩
      obtain ⟨id, g1, g2, g3⟩ := k6 g hg
      exact ⟨id, by unfold freshIds; exact g1, g2, g3⟩
    · cases h
  | .fresh e t :: rs, v :: vs, y :: ys, st, c, K, h, hr, h0, ha => by
    simp only [readRes] at h
    split at h
    · rename_i id
      split at h
      · cases h
      · rename_i hid
        obtain ⟨xs, st2, c2, k1, k2, k3, k4, k5, k6⟩ := readRes_some (c0 := c0) h hr h0 ha.2
        split at k1
        · rename_i e' t' zs hl
          split at k1
          · rename_i hee
            subst hee
            obtain ⟨hty, k1⟩ := cast_some k1
            have hty2 := hty.symm
            subst hty2
            have hidD : id ∈ c2.D := lookup_D k2.s hl
            have hy : y = c2.ρ id := by rw [k3.ρ id hidD, h0.ρ id (k4 id hidD)]; exact ha.1.2.1
            obtain ⟨inner, m1, m2, m3⟩ := k2.entOf hl
            refine ⟨(zs, xs), st2, c2, k1, k2, k3, k4, ⟨⟨inner, by rw [hy]; exact m1, row_cells m3 fun _ h => h⟩, ha.1.2.2, fun g hg hF => ?_, k5⟩, fun g hg => ?_⟩
            · obtain ⟨id', g1, g2, g3⟩ := k6 g hF
              have hne : id ≠ id' := fun hh => hid (hh ▸ g1)
              rw [hy] at hg
              exact k2.s.apart id id' g hidD g2 hne hg g3
            · rcases hg with hg | hg
              · exact ⟨id, by simp [freshIds], hidD, by rw [← hy]; exact hg⟩
              · obtain ⟨id', g1, g2, g3⟩ := k6 g hg
                exact ⟨id', by simp [freshIds, g1], g2, g3⟩
          · cases k1
        · cases k1
    · obtain ⟨xs, st2, c2, k1, k2, k3, k4, k5, k6⟩ := readRes_some (c0 := c0) h hr h0 ha.2
      have hy : y = .slice none 0 0 := ha.1.1
      refine ⟨([], xs), st2, c2, k1, k2, k3, k4, ⟨⟨[], by rw [hy]; exact World.ownsRow_nil c2.w 0 e t.sz, fun j z hj => by simp at hj⟩, by rw [hy]; rfl, fun g hg => (by rw [hy] at hg; cases hg), k5⟩, fun g hg => ?_⟩
      rcases hg with hg | hg
      · rw [hy] at hg; cases hg
      · obtain ⟨id', g1, g2, g3⟩ := k6 g hg
        exact ⟨id', by simpa [freshIds] using g1, g2, g3⟩
    · cases h
  | .val _ _ :: _, _ :: _, [], st, c, K, h, hr, h0, ha => ha.elim
  | .fresh _ _ :: _, _ :: _, [], st, c, K, h, hr, h0, ha => ha.elim
  | [], _ :: _, _, st, c, K, h, hr, h0, ha => by simp [readRes] at h
  | .val _ _ :: _, [], _, st, c, K, h, hr, h0, ha => by simp [readRes] at h
  | .fresh _ _ :: _, [], _, st, c, K, h, hr, h0, ha => by simp [readRes] at h

theorem giveRes_some {tmps : Array Value} : ∀ {rs : List RK} {xs : rdens rs} {ys : List Value} {st : St} {c : Cx} {K : List V1 → St → Option R}, giveRes rs xs st K = some r → Rel c st tmps → ResRel c rs xs ys →
    (∀ g, FB rs ys g → ¬ c.T g ∧ ∀ i, i ∈ c.D → blk (c.ρ i) ≠ some g) →
    ∃ vs st' c', K vs st' = some r ∧ Rel c' st' tmps ∧ Step c c' ∧ c'.w = c.w ∧ All2 (v1Rel c') vs ys ∧ (∀ l y, leafRel c l y → leafRel c' l y) ∧ ∀ i, i ∈ c'.D → (i ∈ c.D ∧ c'.ρ i = c.ρ i) ∨ ∀ g, blk (c'.ρ i) = some g → FB rs ys g
  | [], _, [], st, c, K, h, hr, _, _ => ⟨[], st, c, h, hr, Step.refl c, rfl, trivial, fun _ _ h => h, fun i hi => .inl ⟨hi, rfl⟩⟩
  | .val agg t :: rs, x, y :: ys, st, c, K, h, hr, ⟨h1, h2, h3⟩, hF => by
    simp only [giveRes] at h
    obtain ⟨vs, st', c', k1, k2, k3, k4, k5, k6, k7⟩ := giveRes_some h hr h3 hF
    exact ⟨_, st', c', k1, k2, k3, k4, ⟨v1Rel.imp k6 (ofLv_rel (leaves_rel true h2) h1), k5⟩, k6, k7⟩
  | .fresh e t :: rs, x, y :: ys, st, c, K, h, hr, ⟨⟨inner, h1, h2⟩, h3, h4, h5⟩, hF => by
    simp only [giveRes] at h
    have hl := leaf_grow (st := st) (w1 := c.w) (y0 := y) hr.s (fun _ _ => rfl)
    have hρ : (c.grow c.w (fresh st.store) y).ρ (fresh st.store) = y := if_pos rfl
    have hrow : All2 (leafRel c) (x.1.flatMap (leaves true t)) inner := rows_rel (S := c.I) (fun _ h => h) h1.1 h2
    obtain ⟨q1, q2⟩ := hr.growA (w1 := c.w) (y0 := y) (e := .row e t x.1) (fun _ _ => rfl) (Below.refl _ _) (fun g hg => (hF g (.inl hg)).2)
      ⟨inner, by rw [hρ]; exact h1, fun g hg => by rw [hρ] at hg; exact (hF g (.inl hg)).1, hrow.mono hl⟩
    obtain ⟨vs, st', c', k1, k2, k3, k4, k5, k6, k7⟩ := giveRes_some (c := c.grow c.w (fresh st.store) y) h q1 (h5.move (c := c) (c' := c.grow c.w (fresh st.store) y) rfl fun _ h => h) (fun g hg => ⟨(hF g (.inr hg)).1, fun i hi => by
      rcases List.mem_append.mp hi with hi | hi
      · show blk (if i = fresh st.store then y else c.ρ i) ≠ some g
        rw [if_neg (fresh_not i (by rw [← hr.s.ids]; exact hi))]
        exact (hF g (.inr hg)).2 i hi
      · rw [List.mem_singleton] at hi
        rw [hi, hρ]
        exact fun h9 => h4 g h9 hg⟩)
    have hown : leafRel (c.grow c.w (fresh st.store) y) (.own (fresh st.store)) y := ⟨List.mem_append_right _ (List.mem_singleton.mpr rfl), hρ.symm, h3⟩
    refine ⟨_, st', c', k1, k2, q2.trans k3, k4, ⟨k6 _ _ hown, k5⟩, fun l y h => k6 _ _ (hl _ _ h), fun i hi => ?_⟩
    rcases k7 i hi with ⟨h8, h9⟩ | h8
    · rcases List.mem_append.mp h8 with h8 | h8
      · exact .inl ⟨h8, h9.trans (if_neg (fresh_not i (by rw [← hr.s.ids]; exact h8)))⟩
      · rw [List.mem_singleton] at h8
        refine .inr fun g hg => .inl ?_
        rw [h9, h8, hρ] at hg
        exact hg
    · exact .inr fun g hg => .inr (h8 g hg)
  | [], _, _ :: _, _, _, _, _, _, h, _ => h.elim
  | .val _ _ :: _, _, [], _, _, _, _, _, h, _ => h.elim
  | .fresh _ _ :: _, _, [], _, _, _, _, _, h, _ => h.elim

theorem conOf_ok (htb : tb.ok P) {f : FuncId} {fn : Func} (hla : ∀ code, fn.body = some code → LpAll tb code) (hf : P.funcs[f]? = some fn) (henter : ∀ args w, (callFunc f args).run P w = .ok (.enter f args) w) {ps : List PK} {rs : List RK} {F : pdens ps → Option (rdens rs)}
    (h : ∀ xs, evSig tb fn ps rs xs = F xs) : Con.ok P f (conOf ps rs F) := by
  refine ⟨henter, fun {R} K r vs args c st tmps hrun hr hv => ?_⟩
  obtain ⟨xs, st1, c1, h1, h2, h3, h4, h5⟩ := readArgs_some (c0 := c) (ps := ps) hrun hr (Later.refl hr.s) hv
  split at h1
  · rename_i ys hys
    rw [← h xs] at hys
    have hin : SRel c1.inner [] := ⟨rfl, List.nodup_nil, fun _ _ h => (by cases h), fun i j g hi => (by cases hi), fun k hk => h2.s.lt k (h2.s.sub k hk), fun k hk => hk⟩
    have := evFn_calls (c := c1.inner) htb hla hf hys hin h5
    rw [← h3.w]
    refine this.mono fun e w' hh => ?_
    obtain ⟨c2, vs2, zs, st2, tmps2, rfl, k1, k2, k3, k4, rfl⟩ := hh
    obtain ⟨ys', st3, c3, g1, g2, g3, g4, g5, g6⟩ := readRes_some (c0 := c2) k1 k2 (Later.refl k2.s) k3
    injection g1 with g1
    subst g1
    -- the caller's context
    have hsz : c1.w.heap.size ≤ c3.w.heap.size := by rw [g3.w]; exact k4.below.size
    have hag : ∀ k, k < c1.w.heap.size → c3.w.heap[k]? = c1.w.heap[k]? := fun k hk => by rw [g3.w]; exact k4.agree k hk
    have hnew : ∀ k, c3.I k → c1.I k ∨ ¬ k < c1.w.heap.size := (k4.trans g3.step).new
    have hI : ∀ k, c1.I k → c3.I k := (k4.trans g3.step).I
    have hT3 : ∀ k, k < c1.w.heap.size → c3.T k := (k4.trans g3.step).T
    let cx : Cx := { D := c1.D, I := c3.I, T := fun k => c1.T k ∨ c3.I k, w := c3.w, ρ := c1.ρ }
    have hstep : Step c1 cx := ⟨by show Below 0 c1.w c3.w; rw [g3.w]; exact k4.below, fun k hk => hag k (h2.s.lt k hk), fun k hk => .inl hk, hI, fun k hk => by
      rcases hnew k hk with h9 | h9
      · exact .inl h9
      · exact .inr fun hT => h9 (h2.s.lt k hT)⟩
    have hml : ∀ l y, leafRel c1 l y → leafRel cx l y := fun l y hl => leafRel.move (c' := cx) (fun k hk => hag k (h2.s.lt k hk)) h2.s.sub (fun _ h => .inl h) hI (fun i _ hi => ⟨hi, rfl⟩) hl
    have hrx : Rel cx st1 tmps := by
      refine ⟨⟨h2.s.ids, h2.s.nodup, fun i e he => ?_, h2.s.apart, fun k hk => .inr hk, fun k hk => ?_⟩, h2.env.mono fun _ _ => avRel.imp hml⟩
      · have hent := h2.s.ent i e he
        have := hent.move (c1 := cx) (f := fun l => l) hml (fun _ _ => rfl) rfl (fun g hg => hag g (hent.lt hg)) (fun g hg => by
          rintro (h9 | h9)
          · exact hent.notT hg h9
          · rcases hnew g h9 with h8 | h8
            · exact hent.notT hg (h2.s.sub g h8)
            · exact h8 (hent.lt hg))
        rwa [mapE_id (fun _ => rfl)] at this
      · rcases hk with hk | hk
        · exact Nat.lt_of_lt_of_le (h2.s.lt k hk) hsz
        · exact g2.s.lt k (g2.s.sub k hk)
    have hF : ∀ g, FB rs zs g → ¬ cx.T g ∧ ∀ i, i ∈ cx.D → blk (cx.ρ i) ≠ some g := by
      intro g hg
      obtain ⟨id, _, m2, m3⟩ := g6 g hg
      rw [g2.s.ids] at m2
      obtain ⟨e', he'⟩ := mem_ids m2
      have hnT := (g2.s.ent id e' he').notT m3
      refine ⟨fun hT => ?_, fun i hi hb => ?_⟩
      · rcases hT with hT | hT
        · exact hnT (hT3 g (h2.s.lt g hT))
        · exact hnT (g2.s.sub g hT)
      · have hi' : i ∈ c1.D := hi
        rw [h2.s.ids] at hi'
        obtain ⟨e2, he2⟩ := mem_ids hi'
        exact hnT (hT3 g ((h2.s.ent i e2 he2).lt hb))
    obtain ⟨vs3, st4, c4, m1, m2, m3, m4, m5, _, m7⟩ := giveRes_some (c := cx) h1 hrx (g5.move (c := c3) (c' := cx) rfl fun _ h => h) hF
    refine ⟨resAV vs3, st4, c4, mkRes zs, rfl, m1, m2, resAV_rel m5, (h3.step.trans hstep).trans m3, ⟨?_, fun k hk _ => ?_, fun i hi g hg hlt => ?_⟩, by rw [m4]; exact g3.w⟩
    · rw [m4, ← h3.w]
      exact hsz
    · rw [m4, ← h3.w]
      exact hag k (by rw [h3.w]; exact hk)
    · rcases m7 i hi with ⟨h8, h9⟩ | h8
      · refine ⟨i, h4 i h8, ?_⟩
        rw [← h3.ρ i h8]
        rw [h9] at hg
        exact hg
      · obtain ⟨id, _, m8, m9⟩ := g6 g (h8 g (ownBlock_blk hg))
        rw [g2.s.ids] at m8
        obtain ⟨e', he'⟩ := mem_ids m8
        exact absurd (hT3 g (by rw [h3.w]; exact hlt)) ((g2.s.ent id e' he').notT m9)
  · cases h1

end
end Go.Proofs.Ytaehbfaldofmbaa.Ev
