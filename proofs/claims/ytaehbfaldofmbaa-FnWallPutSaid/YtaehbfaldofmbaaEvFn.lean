/- The evaluator's calls, out of functions' signatures. Conditions: none. -/
import Derived.Test.YtaehbfaldofmbaaEvCode
namespace Go.Proofs.Ytaehbfaldofmbaa.Ev
open Go Go.RowKit

section
variable {P : Program} {R : Type} {tb : Tb} {c : Cx} {st : St} {r : R}

/-! ### Results -/
theorem evLoad_ptr {t : TypeId} {p : AV} {K' : AV → Option R} {y : Value} (h : evLoad tb t p st K' = some r) (hp : avRel c p y) : ∃ ad, y = .pointer (some ad) := by
  unfold evLoad at h
  split at h
  · cases h
  · simp only at h
    split at h
    · obtain ⟨_, g, _, h1⟩ := hp; exact ⟨_, h1⟩
    · obtain ⟨_, g, n, m, _, h1⟩ := hp; exact ⟨_, h1⟩
    · obtain ⟨ad, h1, _⟩ := hp; exact ⟨ad, h1⟩
    · cases h

def resOne (tmps : Array Value) : ResultVar → Sem Value
  | .tmp t => pure (tmps.getD t undef)
  | .cell a t => do loadVar t (← asAddr (tmps.getD a undef))

theorem evRes_run (htb : tb.ok0 P) {tmps : Array Value} (hr : Rel c st tmps) : ∀ {rs : List ResultVar} {K : List V1 → Option R}, evRes tb rs st K = some r →
    ∃ vs ys, K vs = some r ∧ (rs.mapM (resOne tmps)).run P c.w = .ok ys c.w ∧ All2 (v1Rel c) vs ys
  | [], K, h => ⟨[], [], h, by simp [List.mapM_nil], trivial⟩
  | .tmp t :: rs, K, h => by
    unfold evRes at h
    have hg := hr.get t
    split at h
    · rename_i v hv
      rw [hv] at hg
      obtain ⟨vs, ys, h1, h2, h3⟩ := evRes_run htb hr h
      exact ⟨v :: vs, _ :: ys, h1, by simp [List.mapM_cons, resOne, h2], hg, h3⟩
    · cases h
  | .cell a t :: rs, K, h => by
    unfold evRes at h
    have hg := hr.get a
    obtain ⟨ad, had⟩ := evLoad_ptr h hg
    obtain ⟨v, x, _, _, h1, h2, h3, _⟩ := evLoad_some htb h hr.s hg
    have h1 := h1 c.w rfl
    cases v with
    | one v =>
      obtain ⟨vs, ys, k1, k2, k3⟩ := evRes_run htb hr h2
      refine ⟨v :: vs, x :: ys, k1, ?_, h3, k3⟩
      rw [had] at h1
      simp only [Instr.loadAt, Instr.sureAddr, Sem.run_bind, Sem.run_pure, Result.andThen_ok] at h1
      simp [List.mapM_cons, resOne, had, asAddr, h1, k2]
    | tup _ => cases h2
    | fn _ _ => cases h2
    | dead => cases h2

def mkRes (ys : List Value) : Value := match ys with | [y] => y | ys => .tuple ys.toArray

theorem results_run {fn : Func} {tmps : Array Value} {w : World} {ys : List Value} (h : (fn.results.toList.mapM (resOne tmps)).run P w = .ok ys w) : (results fn tmps).run P w = .ok (mkRes ys) w := by
  have : (fn.results.mapM (resOne tmps)).run P w = .ok ys.toArray w := by
    rw [Array.mapM_eq_mapM_toList]
    simp [h]
  have e : (results fn tmps) = (fn.results.mapM (resOne tmps) >>= fun vs => pure (if h : vs.size = 1 then vs[0] else .tuple vs)) := by
    unfold results
    congr 1
  rw [e, Sem.run_bind, this]
  simp only [Result.andThen_ok, Sem.run_pure]
  match ys with
  | [] => rfl
  | [y] => rfl
  | _ :: _ :: _ => simp [mkRes]

theorem resAV_rel {vs : List V1} {ys : List Value} (h : All2 (v1Rel c) vs ys) : avRel c (resAV vs) (mkRes ys) := by
  match vs, ys, h with
  | [], [], _ => exact ⟨#[], rfl, trivial⟩
  | [v], [y], h => exact h.1
  | v :: v' :: vs, y :: y' :: ys, h => exact ⟨_, rfl, by simpa using h⟩
  | [_], _ :: _ :: _, h => exact h.2.elim
  | _ :: _ :: _, [_], h => exact h.2.elim
  | [], _ :: _, h => exact h.elim
  | _ :: _, [], h => exact h.elim


def argTmps (fn : Func) (args : Array Value) : Array Value := args ++ Array.replicate (fn.ntmps - args.size) undef

/-- A function's call. -/
theorem evFn_calls (htb : tb.ok P) {f : FuncId} {fn : Func} (hla : ∀ code, fn.body = some code → LpAll tb code) (hf : P.funcs[f]? = some fn) {sig : List (Nat × LK)} {x : sdens sig} {K : List V1 → St → Option R} (h : evFn tb fn sig x K = some r)
    {args : Array Value} (hsz : args.size = sig.length) (hD : c.D = []) (hs : ∀ k, c.I k → c.T k) (hl : ∀ k, c.T k → k < c.w.heap.size) (hv : SigRel c (argTmps fn args) sig x) (hO : ∀ g, OBs c.w (argTmps fn args) sig g → ¬ c.T g) :
    Calls P f args c.w fun e w' => ∃ c' vs' ys st' tmps', e = .returned (mkRes ys) ∧ K vs' st' = some r ∧ Rel c' st' tmps' ∧ All2 (v1Rel c') vs' ys ∧ Step c c' ∧ c'.w = w' ∧ ∀ s, s ∈ tb.fixed → tmps'.getD s undef = (argTmps fn args).getD s undef := by
  unfold evFn at h
  split at h
  · rename_i code hb
    split at h
    · rename_i hn
      have hsize : (argTmps fn args).size = fn.ntmps := by unfold argTmps; simp; omega
      obtain ⟨c1, hr, hst, hw⟩ := putVals_some (blank_rel c hD hs hl (argTmps fn args) fn.ntmps hsize) hv (fun g hg => ⟨hO g hg, fun i hi => by rw [hD] at hi; cases hi⟩)
      rw [← hw]
      refine calls_of_wp hf hb (evCode_goes htb code (hla code hb) (a := { tmps := argTmps fn args, defers := [] }) hr h _ fun e st' c' a' h1 h2 h3 h4 => ?_)
      have fin : ∀ {K'}, evRes tb fn.results.toList st' K' = some r → (∀ vs', K' vs' = K vs' st') → bodyPost P fn (fun e w' => ∃ c' vs' ys st' tmps', e = .returned (mkRes ys) ∧ K vs' st' = some r ∧ Rel c' st' tmps' ∧ All2 (v1Rel c') vs' ys ∧ Step c c' ∧ c'.w = w' ∧ ∀ s, s ∈ tb.fixed → tmps'.getD s undef = (argTmps fn args).getD s undef) .normal a' c'.w := by
        intro K' hh hK
        obtain ⟨vs', ys, k1, k2, k3⟩ := evRes_run htb.ok0 h2 hh
        exact ⟨h4.1, mkRes ys, results_run k2, c', vs', ys, st', a'.tmps, rfl, by rw [← hK]; exact k1, h2, k3, hst.trans h3, rfl, h4.2⟩
      cases e with
      | normal => exact fin h1 fun _ => rfl
      | ret => exact fin h1 fun _ => rfl
      | exit id => cases h1
    · cases h
  · cases h

/-! ### Arguments -/
def natBlk (k : LK) (y : Value) (w : World) (g : Nat) : Prop :=
  match k with
  | .b t ks => ∃ gg conc, y = .pointer (some ⟨gg, 0, none⟩) ∧ w.heap[gg]? = some (.cells conc t (0, 0)) ∧ OBc ks conc.toList g
  | _ => False
/-- Arguments as they stand when all are read; ids: what is lent. -/
def Arg (hm : Bool) (cf : Cx) (tA : Array Value) : (sig : List (Nat × LK)) → sdens sig → List (Option Nat) → Prop
  | [], _, ids => ids = []
  | (s, .c agg (.v want t)) :: sig, x, ids => shape agg (tA.getD s undef) ∧ RdE (rdS (Md.ofA hm want) cf) t cf.w x.1 (tA.getD s undef).cells.toList ∧ Arg hm cf tA sig x.2 ids
  | (s, .c agg (.r e t)) :: sig, x, ids => ∃ o ids', ids = o :: ids' ∧ ((tA.getD s undef).oneCell' = true ∧ EnRel cf (.c agg (.r e t)) x.1 (tA.getD s undef)) ∧ (match o with | some id => (id ∈ cf.D → tA.getD s undef = cf.ρ id) ∧ some id ∉ ids' | none => tA.getD s undef = .slice none 0 0) ∧ Arg hm cf tA sig x.2 ids'
  | (s, .b t ks) :: sig, x, ids => ∃ id ids', ids = some id :: ids' ∧ (id ∈ cf.D → EnRel cf (.b t ks) x.1 (tA.getD s undef) ∧ tA.getD s undef = cf.ρ id) ∧ some id ∉ ids' ∧
      (∀ g, natBlk (.b t ks) (tA.getD s undef) cf.w g → ¬ cf.T g ∧ (∀ j, j ∈ cf.D → blk (cf.ρ j) ≠ some g) ∧ ¬ OBs cf.w tA sig g) ∧ Arg hm cf tA sig x.2 ids'

theorem getCKs_ids {tmps : Array Value} {c0 : Cx} : ∀ {ks : List CK} {ls : List Leaf} {cs : List Value} {st : St} {c : Cx} {K : cdens ks → St → Option R}, getCKs ks ls st K = some r → Rel c st tmps → Later c0 c → All2 (leafRel c0) ls cs →
    ∀ g, OBc ks cs g → ∃ i, i ∈ c.D ∧ blk (c.ρ i) = some g ∧ (c.ρ i).ownBlock = some g ∧ i ∈ ckIds ks ls
  | [], ls, cs, st, c, K, h, hr, h0, ha, g, hg => hg.elim
  | .v want t :: ks, ls, cs, st, c, K, h, hr, h0, ha, g, hg => by
    simp only [getCKs] at h
    obtain ⟨x, st1, c1, h1, h2, h3, h4, h5⟩ := readTy_some (c0 := c0) h hr h0 (ha.take t.sz)
    obtain ⟨i, k1, k2, k3, k4⟩ := getCKs_ids (c0 := c0) h1 h2 (h0.trans h3 h4) (ha.drop t.sz) g hg
    exact ⟨i, h4 i k1, by rw [← h3.ρ i k1]; exact k2, by rw [← h3.ρ i k1]; exact k3, k4⟩
  | .r e t :: ks, ls, cs, st, c, K, h, hr, h0, ha, g, hg => by
    simp only [getCKs] at h
    split at h
    · rename_i id rest
      match cs, ha, hg with
      | y :: cs, ha, hg =>
        split at h
        · rename_i e' t' xs hl
          split at h
          · rename_i hee
            subst hee
            obtain ⟨hty, h⟩ := cast_some h
            have hty2 := hty.symm
            subst hty2
            obtain ⟨hr1, hL⟩ := hr.take id
            have hidD : id ∈ c.D := lookup_D hr.s hl
            have hy : y = c.ρ id := by rw [h0.ρ id hidD]; exact ha.1.2.1
            rcases hg with hg | hg
            · obtain ⟨inner, m1, _, _⟩ := hr.entOf hl
              rw [hy] at hg
              exact ⟨id, hidD, hg, by rw [← ownsRow_blk m1]; exact hg, by simp [ckIds, idsL]⟩
            · obtain ⟨i, k1, k2, k3, k4⟩ := getCKs_ids (c0 := c0) h hr1 (h0.trans hL hL.D) ha.2 g hg
              exact ⟨i, (List.mem_filter.mp k1).1, k2, k3, by simp [ckIds, k4]⟩
          · cases h
        · cases h
    · rename_i rest
      match cs, ha, hg with
      | y :: cs, ha, hg =>
        have hy : y = .slice none 0 0 := ha.1.1
        rcases hg with hg | hg
        · rw [hy] at hg; cases hg
        · obtain ⟨i, k1, k2, k3, k4⟩ := getCKs_ids (c0 := c0) h hr h0 ha.2 g hg
          exact ⟨i, k1, k2, k3, by simp [ckIds, k4]⟩
    · cases h

theorem ofA_step {hm want : Bool} {c c' : Cx} (h : Later c c') : ∀ k, rdS (Md.ofA hm want) c k → rdS (Md.ofA hm want) c' k := rdS_step h

theorem readArgs_some {lim : Option (List Nat)} {hm : Bool} {tA : Array Value} {tmps : Array Value} {c0 : Cx} : ∀ {ps : List LK} {i : Nat} {vs : List V1} {ys : List Value} {ids : List (Option Nat)} {st : St} {c : Cx} {K : sdens (num i ps) → List (Option Nat) → St → Option R},
    readArgs lim hm i ps vs ids st K = some r → Rel c st tmps → Later c0 c → All2 (v1Rel c0) vs ys → (∀ j y, ys[j]? = some y → tA.getD (i + j) undef = y) →
    ∃ xs ids' st' cf, K xs (ids ++ ids') st' = some r ∧ Rel cf st' tmps ∧ Later c cf ∧ Arg hm cf tA (num i ps) xs ids' ∧ (∀ g, OBs c.w tA (num i ps) g → ∃ j, j ∈ c.D ∧ blk (c.ρ j) = some g ∧ (∀ M, lim = some M → j ∈ M) ∧ ((c.ρ j).ownBlock = some g ∨ some j ∈ ids')) ∧ (∀ o, o ∈ ids' → o ∉ ids ∨ o = none) ∧ ys.length = ps.length
  | [], i, vs, ys, ids, st, c, K, h, hr, h0, ha, ht => by
    simp only [readArgs] at h
    split at h
    · cases ys with
      | nil => exact ⟨(), [], st, c, by rw [List.append_nil]; exact h, hr, Later.refl hr.s, rfl, fun g hg => hg.elim, fun o ho => (by cases ho), rfl⟩
      | cons _ _ => exact ha.elim
    · cases h
  | .c agg (.v want t) :: ps, i, vs, ys, ids, st, c, K, h, hr, h0, ha, ht => by
    simp only [readArgs] at h
    split at h
    · rename_i v vs'
      cases ys with
      | nil => exact ha.elim
      | cons y ys =>
        split at h
        · rename_i ls hls
          obtain ⟨hl, hsh⟩ := lvOf_rel hls ha.1
          have hy : tA.getD i undef = y := ht 0 y rfl
          obtain ⟨x, st1, c1, h1, h2, h3, h4, h5⟩ := readTy_some (c0 := c0) h hr h0 hl
          obtain ⟨xs, ids', st2, cf, k1, k2, k3, k4, k5, k6, k7⟩ := readArgs_some (c0 := c0) h1 h2 (h0.trans h3 h4) ha.2 (fun j y hj => by rw [show i + 1 + j = i + (j + 1) by omega]; exact ht (j + 1) y (by simpa using hj))
          refine ⟨(x, xs), ids', st2, cf, k1, k2, h3.trans k3 k3.D, ⟨by rw [hy]; exact hsh, by rw [hy]; exact h5.step (by rw [k3.w]; exact agree.refl _ _) (ofA_step k3), k4⟩, fun g hg => ?_, k6, by simp [k7]⟩
          rcases hg with hg | hg
          · exact hg.elim
          · rw [← h3.w] at hg
            obtain ⟨j, g1, g2, g3, g4⟩ := k5 g hg
            exact ⟨j, h4 j g1, by rw [← h3.ρ j g1]; exact g2, g3, by rw [← h3.ρ j g1]; exact g4⟩
        · cases h
    · cases h
  | .c agg (.r e t) :: ps, i, vs, ys, ids, st, c, K, h, hr, h0, ha, ht => by
    simp only [readArgs] at h
    split at h
    · rename_i id vs'
      cases ys with
      | nil => exact ha.elim
      | cons y ys =>
        split at h
        · rename_i hcond
          obtain ⟨⟨hagg, hnc⟩, hlim⟩ := hcond
          split at h
          · rename_i e' t' xs hl
            split at h
            · rename_i hee
              subst hee
              obtain ⟨hty, h⟩ := cast_some h
              have hty2 := hty.symm
              subst hty2
              have hidD : id ∈ c.D := lookup_D hr.s hl
              have hy0 : tA.getD i undef = y := ht 0 y rfl
              have hy : y = c.ρ id := by rw [h0.ρ id hidD]; exact ha.1.2.1
              obtain ⟨inner, m1, m2, m3⟩ := hr.entOf hl
              obtain ⟨xs', ids', st2, cf, k1, k2, k3, k4, k5, k6, k7⟩ := readArgs_some (c0 := c0) h hr h0 ha.2 (fun j y hj => by rw [show i + 1 + j = i + (j + 1) by omega]; exact ht (j + 1) y (by simpa using hj))
              have hOB : ∀ g, OBe c.w (.c agg (.r e t)) (tA.getD i undef) g → blk (c.ρ id) = some g := by
                intro g hg
                rw [hy0] at hg
                have : OBc [.r e t] y.cells.toList g := hg
                rw [one_cells ha.1.2.2] at this
                rcases this with this | this
                · rw [← hy]; exact this
                · exact this.elim
              refine ⟨(xs, xs'), some id :: ids', st2, cf, by rw [List.append_assoc] at k1; exact k1, k2, k3, ⟨some id, ids', rfl, ⟨by rw [hy0]; exact ha.1.2.2, by rw [hy0, hagg]; exact ha.1.2.2, ?_⟩, ⟨fun hD => by rw [hy0, hy, k3.ρ id hD], fun hm' => ?_⟩, k4⟩, fun g hg => ?_, fun o ho => ?_, by simp [k7]⟩
              · rw [hy0]
                show CKsRel cf [.r e t] _ _
                rw [one_cells ha.1.2.2]
                exact ⟨⟨inner, by rw [k3.w, hy]; exact m1, fun j z hz => (row_cells m3 (fun _ h => h) j z hz).step (by rw [k3.w]; exact agree.refl _ _) k3.step.I⟩, ha.1.2.2, fun g _ hF => hF.elim, trivial⟩
              · rcases k6 _ hm' with h9 | h9
                · exact h9 (List.mem_append_right _ (List.mem_singleton.mpr rfl))
                · cases h9
              · rcases hg with hg | hg
                · refine ⟨id, hidD, hOB g hg, fun M hM => ?_, .inr (by simp)⟩
                  rw [hM] at hlim
                  simpa [inLim] using hlim
                · obtain ⟨j, g1, g2, g3, g4⟩ := k5 g hg
                  exact ⟨j, g1, g2, g3, g4.imp (fun h => h) fun h => by simp [h]⟩
              · rcases List.mem_cons.mp ho with rfl | ho
                · left
                  intro h9
                  rw [List.contains_eq_mem] at hnc
                  simp [h9] at hnc
                · rcases k6 o ho with h9 | h9
                  · exact .inl fun h8 => h9 (List.mem_append_left _ h8)
                  · exact .inr h9
            · cases h
          · cases h
        · cases h
    · rename_i vs'
      cases ys with
      | nil => exact ha.elim
      | cons y ys =>
        split at h
        · rename_i hagg
          have hy0 : tA.getD i undef = y := ht 0 y rfl
          have hy : y = .slice none 0 0 := ha.1.1
          obtain ⟨xs', ids', st2, cf, k1, k2, k3, k4, k5, k6, k7⟩ := readArgs_some (c0 := c0) h hr h0 ha.2 (fun j y hj => by rw [show i + 1 + j = i + (j + 1) by omega]; exact ht (j + 1) y (by simpa using hj))
          refine ⟨([], xs'), none :: ids', st2, cf, by rw [List.append_assoc] at k1; exact k1, k2, k3, ⟨none, ids', rfl, ⟨by rw [hy0, hy]; rfl, by rw [hy0, hagg, hy]; rfl, ?_⟩, by rw [hy0]; exact hy, k4⟩, fun g hg => ?_, fun o ho => ?_, by simp [k7]⟩
          · rw [hy0, hy]
            exact ⟨⟨[], World.ownsRow_nil cf.w 0 e t.sz, fun j z hj => by simp at hj⟩, rfl, fun g _ hF => hF.elim, trivial⟩
          · rcases hg with hg | hg
            · rw [hy0, hy] at hg
              have hg : OBc [.r e t] [.slice none 0 0] g := hg
              rcases hg with hg | hg
              · cases hg
              · exact hg.elim
            · obtain ⟨j, g1, g2, g3, g4⟩ := k5 g hg
              exact ⟨j, g1, g2, g3, g4.imp (fun h => h) fun h => by simp [h]⟩
          · rcases List.mem_cons.mp ho with rfl | ho
            · exact .inr rfl
            · rcases k6 o ho with h9 | h9
              · exact .inl fun h8 => h9 (List.mem_append_left _ h8)
              · exact .inr h9
        · cases h
    · cases h
  | .b t ks :: ps, i, vs, ys, ids, st, c, K, h, hr, h0, ha, ht => by
    simp only [readArgs] at h
    split at h
    · rename_i id vs'
      cases ys with
      | nil => exact ha.elim
      | cons y ys =>
        split at h
        · rename_i hnc
          split at h
          · rename_i t' ls hl
            split at h
            · rename_i htt
              obtain ⟨htt, hlim⟩ := htt
              subst htt
              have hy0 : tA.getD i undef = y := ht 0 y rfl
              have hidD : id ∈ c.D := lookup_D hr.s hl
              obtain ⟨_, gg, hρ0, hyg⟩ := ha.1
              have hρ : c.ρ id = .pointer (some ⟨gg, 0, none⟩) := by rw [h0.ρ id hidD]; exact hρ0
              obtain ⟨gg', conc, m1, m2, m3, m4⟩ := hr.entOf hl
              rw [hρ] at m1
              injection m1 with m1
              injection m1 with m1
              injection m1 with m1 _ _
              subst m1
              obtain ⟨x, st1, c1, h1, h2, h3, h4, h5⟩ := getCKs_some (c0 := c) h hr (Later.refl hr.s) m4
              obtain ⟨xs', ids', st2, cf, k1, k2, k3, k4, k5, k6, k7⟩ := readArgs_some (c0 := c0) h1 h2 (h0.trans h3 h3.D) ha.2 (fun j y hj => by rw [show i + 1 + j = i + (j + 1) by omega]; exact ht (j + 1) y (by simpa using hj))
              have hyr : y = c.ρ id := by rw [hyg, hρ]
              have hwf : cf.w = c.w := k3.w.trans h3.w
              have hnat : ∀ {w : World} g, w = c.w → natBlk (.b t ks) (tA.getD i undef) w g → OBc ks conc.toList g := by
                rintro w g rfl ⟨g2, conc2, e1, e2, e3⟩
                rw [hy0, hyg] at e1
                injection e1 with e1
                injection e1 with e1
                injection e1 with e1 _ _
                subst e1
                rw [m3] at e2
                injection e2 with e2
                injection e2 with e2 _ _
                rw [e2]
                exact e3
              refine ⟨(x, xs'), some id :: ids', st2, cf, by rw [List.append_assoc] at k1; exact k1, k2, h3.trans k3 k3.D, ⟨id, ids', rfl, fun hD => ⟨⟨gg, conc, by rw [hy0]; exact hyg, by rw [hwf]; exact m3, h4.move (c' := cf) k3.w k3.step.I k3.step.T, fun hF => ?_⟩, ?_⟩, fun hm' => ?_, fun g hg => ?_, k4⟩, fun g hg => ?_, fun o ho => ?_, by simp [k7]⟩
              · -- the block itself is none of its rows
                obtain ⟨⟨j, g1, g2⟩, _, g3⟩ := h5 gg hF
                refine g3 id (k3.D id hD) ?_
                rw [h3.ρ id (k3.D id hD), hρ]
                rfl
              · rw [hy0, hyr, k3.ρ id hD, h3.ρ id (k3.D id hD)]
              · rcases k6 _ hm' with h9 | h9
                · exact h9 (List.mem_append_right _ (List.mem_singleton.mpr rfl))
                · cases h9
              · obtain ⟨⟨j, g1, g2⟩, g3, g4⟩ := h5 g (hnat g hwf hg)
                refine ⟨fun hT => ?_, fun j hj => ?_, fun hF => ?_⟩
                · rcases k3.T g hT with h9 | ⟨j, h8, h9⟩
                  · exact g3 h9
                  · exact g4 j h8 h9
                · rw [k3.ρ j hj]
                  exact g4 j (k3.D j hj)
                · rw [hwf, ← h3.w] at hF
                  obtain ⟨j, h8, h9, _⟩ := k5 g hF
                  exact g4 j h8 h9
              · rcases hg with hg | hg
                · obtain ⟨g2, conc2, e1, e2, e3⟩ := hg
                  rcases e3 with e3 | e3
                  · refine ⟨id, hidD, ?_, fun M hM => ?_, .inr (by simp)⟩
                    · rw [hy0, hyr] at e1
                      rw [e1, e3]
                      rfl
                    · rw [hM] at hlim
                      simp only [inLim, List.all_cons, Bool.and_eq_true] at hlim
                      simpa using hlim.1
                  · obtain ⟨i', q1, q2, q3, q4⟩ := getCKs_ids (c0 := c) h hr (Later.refl hr.s) m4 g (hnat g rfl ⟨g2, conc2, e1, e2, e3⟩)
                    refine ⟨i', q1, q2, fun M hM => ?_, .inl q3⟩
                    rw [hM] at hlim
                    simp only [inLim, List.all_cons, Bool.and_eq_true] at hlim
                    have := List.all_eq_true.mp hlim.2 i' q4
                    simpa using this
                · rw [← h3.w] at hg
                  obtain ⟨j, g1, g2, g3, g4⟩ := k5 g hg
                  exact ⟨j, h3.D j g1, by rw [← h3.ρ j g1]; exact g2, g3, by rw [← h3.ρ j g1]; exact g4.imp (fun h => h) fun h => by simp [h]⟩
              · rcases List.mem_cons.mp ho with rfl | ho
                · left
                  intro h9
                  rw [List.contains_eq_mem] at hnc
                  simp [h9] at hnc
                · rcases k6 o ho with h9 | h9
                  · exact .inl fun h8 => h9 (List.mem_append_left _ h8)
                  · exact .inr h9
            · cases h
          · cases h
        · cases h
    · cases h

theorem any_num : ∀ {ps : List LK} {i : Nat} {w : World} {tA : Array Value} {g : Nat}, ps.any LK.mut = false → ¬ OBs w tA (num i ps) g
  | [], _, _, _, _, _, h => h
  | .c agg (.v want t) :: ps, i, w, tA, g, hm, h => by
    rcases h with h | h
    · exact h.elim
    · exact any_num (ps := ps) (by simpa [LK.mut] using hm) h
  | .c agg (.r e t) :: ps, i, w, tA, g, hm, h => by simp [LK.mut] at hm
  | .b t ks :: ps, i, w, tA, g, hm, h => by simp [LK.mut] at hm

/-- Who owns what is lent. -/
theorem Arg.owner {hm : Bool} {cf : Cx} {tA : Array Value} : ∀ {ps : List LK} {i : Nat} {xs : sdens (num i ps)} {ids : List (Option Nat)}, Arg hm cf tA (num i ps) xs ids → (∀ id, some id ∈ ids → id ∈ cf.D) →
    ∀ g, OBs cf.w tA (num i ps) g → (∃ id, some id ∈ ids ∧ blk (cf.ρ id) = some g) ∨ (¬ cf.T g ∧ ∀ j, j ∈ cf.D → blk (cf.ρ j) ≠ some g)
  | [], _, _, _, _, _, g, hg => hg.elim
  | .c agg (.v want t) :: ps, i, xs, ids, h, hD, g, hg => by
    rcases hg with hg | hg
    · exact hg.elim
    · exact Arg.owner h.2.2 hD g hg
  | .c agg (.r e t) :: ps, i, xs, ids, h, hD, g, hg => by
    obtain ⟨o, ids', rfl, h1, h2, h3⟩ := h
    rcases hg with hg | hg
    · have hg' : OBc [.r e t] (tA.getD i undef).cells.toList g := hg
      rw [one_cells h1.1] at hg'
      rcases hg' with hg' | hg'
      · left
        cases o with
        | none => rw [h2] at hg'; cases hg'
        | some id => exact ⟨id, by simp, by rw [← h2.1 (hD id (by simp))]; exact hg'⟩
      · exact hg'.elim
    · rcases Arg.owner h3 (fun id hi => hD id (by simp [hi])) g hg with ⟨id, g1, g2⟩ | g1
      · exact .inl ⟨id, by simp [g1], g2⟩
      · exact .inr g1
  | .b t ks :: ps, i, xs, ids, h, hD, g, hg => by
    obtain ⟨id, ids', rfl, h1, h2, h3, h4⟩ := h
    rcases hg with hg | hg
    · obtain ⟨gg, conc, e1, e2, e3⟩ := hg
      rcases e3 with rfl | e3
      · left
        refine ⟨id, by simp, ?_⟩
        rw [← (h1 (hD id (by simp))).2, e1]
        rfl
      · obtain ⟨g1, g2, _⟩ := h3 g ⟨gg, conc, e1, e2, e3⟩
        exact .inr ⟨g1, g2⟩
    · rcases Arg.owner h4 (fun id hi => hD id (by simp [hi])) g hg with ⟨id', g1, g2⟩ | g1
      · exact .inl ⟨id', by simp [g1], g2⟩
      · exact .inr g1

/-- The callee's context: what is lent is its own, all else stays. -/
def Cx.lend (cf : Cx) (tA : Array Value) (sig : List (Nat × LK)) : Cx := { D := [], I := cf.I, T := fun k => k < cf.w.heap.size ∧ ¬ OBs cf.w tA sig k, w := cf.w, ρ := fun _ => undef }

theorem Arg.sig {hm : Bool} {cf ci : Cx} {tA : Array Value} (hw : ci.w = cf.w) (hI : ∀ k, cf.I k → ci.I k) (hT : ∀ k, cf.T k → ci.T k) (hS : hm = false → ∀ k, k < cf.w.heap.size → ci.T k) (hap : ∀ i j g, i ∈ cf.D → j ∈ cf.D → i ≠ j → blk (cf.ρ i) = some g → blk (cf.ρ j) ≠ some g) : ∀ {ps : List LK} {i : Nat} {xs : sdens (num i ps)} {ids : List (Option Nat)}, Arg hm cf tA (num i ps) xs ids → (∀ id, some id ∈ ids → id ∈ cf.D) →
    SigRel ci tA (num i ps) xs
  | [], _, _, _, _, _ => trivial
  | .c agg (.v want t) :: ps, i, xs, ids, ⟨h1, h2, h3⟩, hD => by
    refine ⟨⟨h1, ?_, ?_⟩, fun g hg => hg.elim, Arg.sig hw hI hT hS hap h3 hD⟩
    · show RdE (ci.S want) t ci.w xs.1 ((tA.getD i undef).cells.toList.take t.sz)
      rw [List.take_of_length_le (by rw [h2.length]; exact Nat.le_refl _), hw]
      refine h2.step (agree.refl _ _) fun k hk => ?_
      unfold Cx.S
      cases want with
      | true => exact hI k hk
      | false =>
        cases hm with
        | true => exact hT k hk
        | false => exact hS rfl k hk
    · show CKsRel ci [] () ((tA.getD i undef).cells.toList.drop t.sz)
      rw [List.drop_eq_nil_of_le (by rw [h2.length]; exact Nat.le_refl _)]
      trivial
  | .c agg (.r e t) :: ps, i, xs, ids, h, hD => by
    obtain ⟨o, ids', rfl, h1, h2, h3⟩ := h
    refine ⟨h1.2.move hw hI hT, fun g hg hF => ?_, Arg.sig hw hI hT hS hap h3 (fun id hi => hD id (by simp [hi]))⟩
    rw [hw] at hg hF
    have hg' : OBc [.r e t] (tA.getD i undef).cells.toList g := hg
    rw [one_cells h1.1] at hg'
    rcases hg' with hg' | hg'
    · cases o with
      | none => rw [h2] at hg'; cases hg'
      | some id =>
        have hid := hD id (by simp)
        rw [h2.1 hid] at hg'
        rcases Arg.owner h3 (fun id hi => hD id (by simp [hi])) g hF with ⟨id', g1, g2⟩ | ⟨_, g1⟩
        · refine hap id id' g hid (hD id' (by simp [g1])) (fun e => h2.2 (by rw [e]; exact g1)) hg' g2
        · exact g1 id hid hg'
    · exact hg'.elim
  | .b t ks :: ps, i, xs, ids, h, hD => by
    obtain ⟨id, ids', rfl, h1, h2, h3, h4⟩ := h
    have hid := hD id (by simp)
    obtain ⟨k1, k2⟩ := h1 hid
    refine ⟨k1.move hw hI hT, fun g hg hF => ?_, Arg.sig hw hI hT hS hap h4 (fun id hi => hD id (by simp [hi]))⟩
    rw [hw] at hg hF
    obtain ⟨gg, conc, e1, e2, e3⟩ := hg
    rcases e3 with rfl | e3
    · have hb : blk (cf.ρ id) = some g := by rw [← k2, e1]; rfl
      rcases Arg.owner h4 (fun id hi => hD id (by simp [hi])) g hF with ⟨id', g1, g2⟩ | ⟨_, g1⟩
      · exact hap id id' g hid (hD id' (by simp [g1])) (fun e => h2 (by rw [e]; exact g1)) hb g2
      · exact g1 id hid hb
    · exact (h3 g ⟨gg, conc, e1, e2, e3⟩).2.2 hF

theorem present_D {store : List (Nat × Ent)} {c : Cx} (hs : SRel c store) {ids : List (Option Nat)} (h : present store ids = true) : ∀ id, some id ∈ ids → id ∈ c.D := by
  intro id hi
  have := List.all_eq_true.mp h _ hi
  simp only at this
  cases hl : lookup store id with
  | none => rw [hl] at this; cases this
  | some e => exact lookup_D (st := { env := [], store := store }) hs hl

/-- The lent ones, beside the values. -/
def LentM (cf : Cx) : (ms : List LK) → List Value → List (Option Nat) → Prop
  | [], [], [] => True
  | _ :: ms, y :: ys, o :: ids => (match o with | some id => id ∈ cf.D ∧ y = cf.ρ id ∧ some id ∉ ids | none => y = .slice none 0 0) ∧ y.oneCell' = true ∧ LentM cf ms ys ids
  | _, _, _ => False
theorem Arg.lent {hm : Bool} {cf : Cx} {tA : Array Value} : ∀ {ps : List LK} {i : Nat} {xs : sdens (num i ps)} {ids : List (Option Nat)}, Arg hm cf tA (num i ps) xs ids → (∀ id, some id ∈ ids → id ∈ cf.D) →
    LentM cf (muts ps) ((mutNums (num i ps)).map fun s => tA.getD s undef) ids
  | [], _, _, _, h, _ => by
    have h : _ = [] := h
    rw [h]
    trivial
  | .c agg (.v want t) :: ps, i, xs, ids, ⟨_, _, h3⟩, hD => by
    have := Arg.lent (ps := ps) (i := i + 1) h3 hD
    exact this
  | .c agg (.r e t) :: ps, i, xs, ids, h, hD => by
    obtain ⟨o, ids', rfl, h1, h2, h3⟩ := h
    refine ⟨?_, h1.1, Arg.lent h3 (fun id hi => hD id (by simp [hi]))⟩
    cases o with
    | none => exact h2
    | some id => exact ⟨hD id (by simp), h2.1 (hD id (by simp)), h2.2⟩
  | .b t ks :: ps, i, xs, ids, h, hD => by
    obtain ⟨id, ids', rfl, h1, h2, h3, h4⟩ := h
    exact ⟨⟨hD id (by simp), (h1 (hD id (by simp))).2, h2⟩, by obtain ⟨⟨gg, conc, e1, _⟩, _⟩ := h1 (hD id (by simp)); show (tA.getD i undef).oneCell' = true; rw [e1]; rfl, Arg.lent h4 (fun id hi => hD id (by simp [hi]))⟩

theorem mutVals_rel {tmps : Array Value} (hr : Rel c st tmps) : ∀ {ss : List Nat} {ms : List V1}, mutVals ss st = some ms → All2 (v1Rel c) ms (ss.map fun s => tmps.getD s undef)
  | [], ms, h => by simp [mutVals] at h; subst h; trivial
  | s :: ss, ms, h => by
    simp only [mutVals] at h
    split at h
    · rename_i v hv
      cases hm : mutVals ss st with
      | none => rw [hm] at h; cases h
      | some ms' =>
        rw [hm] at h
        injection h with h
        subst h
        have := hr.get s
        rw [hv] at this
        exact ⟨this, mutVals_rel hr hm⟩
    · cases h

/-! ### What is given back -/
theorem one_of_RdE {S : Nat → Prop} {t : Ty} {w : World} {x : t.den} {cs : List Value} (h : RdE S t w x (cs.take t.sz)) : t.sz ≤ cs.length ∧ ∀ u ∈ cs.take t.sz, u.oneCell' = true := by
  have := h.length
  rw [List.length_take] at this
  exact ⟨by omega, h.one⟩
theorem CKsRel.cells {c : Cx} : ∀ {ks : List CK} {x : cdens ks} {cs : List Value}, CKsRel c ks x cs → cs.length = csz ks ∧ ∀ u ∈ cs, u.oneCell' = true
  | [], _, [], _ => ⟨rfl, fun u hu => by cases hu⟩
  | [], _, _ :: _, h => h.elim
  | .v want t :: ks, x, cs, ⟨h1, h2⟩ => by
    obtain ⟨k1, k2⟩ := h2.cells
    obtain ⟨k3, k4⟩ := one_of_RdE h1
    rw [List.length_drop] at k1
    refine ⟨by simp only [csz, CK.sz]; omega, fun u hu => ?_⟩
    rw [← List.take_append_drop t.sz cs] at hu
    rcases List.mem_append.mp hu with hu | hu
    · exact k4 u hu
    · exact k2 u hu
  | .r e t :: ks, x, y :: rest, ⟨h1, h2, h3, h4⟩ => by
    obtain ⟨k1, k2⟩ := h4.cells
    refine ⟨by simp only [csz, CK.sz, List.length_cons]; omega, fun u hu => ?_⟩
    rcases List.mem_cons.mp hu with rfl | hu
    · exact h2
    · exact k2 u hu
  | .r e t :: ks, x, [], h => h.elim

theorem all2_dead {c : Cx} : ∀ (l : List Value), (∀ u ∈ l, u.oneCell' = true) → All2 (leafRel c) (List.replicate l.length .dead) l
  | [], _ => trivial
  | x :: l, h => ⟨h x (by simp), all2_dead l fun u hu => h u (by simp [hu])⟩

/-- A lent one's new entry. -/
def LendE : (i : Nat) → (ms : List LK) → sdens (num i ms) → List (Option Nat) → Nat → Ent → Prop
  | _, [], _, _, _, _ => False
  | i, .c _ (.v _ _) :: ms, x, ids, j, e => LendE (i + 1) ms x.2 ids j e
  | i, .c _ (.r e' t) :: ms, x, ids, j, e =>
    match ids with
    | some id :: ids => (j = id ∧ e = .row e' t x.1) ∨ LendE (i + 1) ms x.2 ids j e
    | none :: ids => LendE (i + 1) ms x.2 ids j e
    | [] => False
  | i, .b t ks :: ms, x, ids, j, e =>
    match ids with
    | some id :: ids => (j = id ∧ e = .box t (List.replicate (csz ks) .dead)) ∨ LendE (i + 1) ms x.2 ids j e
    | none :: ids => LendE (i + 1) ms x.2 ids j e
    | [] => False

theorem lendSt_mem {cf : Cx} : ∀ {ms : List LK} {i : Nat} {x : sdens (num i ms)} {ys : List Value} {ids : List (Option Nat)} {st : St} {j : Nat} {e : Ent}, ms.all LK.mut = true → LentM cf ms ys ids → (j, e) ∈ (lendSt i ms x ids st).store → (some j ∉ ids ∧ (j, e) ∈ st.store) ∨ LendE i ms x ids j e
  | [], i, x, ys, ids, st, j, e, _, hl, h => by
    cases ids with
    | nil => exact .inl ⟨by simp, h⟩
    | cons _ _ => cases ys <;> exact hl.elim
  | .c agg (.v want t) :: ms, i, x, ys, ids, st, j, e, hm, hl, h => by simp [LK.mut] at hm
  | .c agg (.r e' t) :: ms, i, x, y :: ys, some id :: ids, st, j, e, hm, hl, h => by
    rcases lendSt_mem (cf := cf) (by simpa [LK.mut] using hm) hl.2.2 h with ⟨h1, h2⟩ | h1
    · rcases setEnt_mem h2 with ⟨h3, h4⟩ | ⟨h3, h4⟩
      · exact .inr (.inl ⟨h3, h4⟩)
      · exact .inl ⟨by simp [h1, h3], h4⟩
    · exact .inr (.inr h1)
  | .c agg (.r e' t) :: ms, i, x, y :: ys, none :: ids, st, j, e, hm, hl, h => by
    rcases lendSt_mem (cf := cf) (by simpa [LK.mut] using hm) hl.2.2 h with ⟨h1, h2⟩ | h1
    · exact .inl ⟨by simp [h1], h2⟩
    · exact .inr h1
  | .b t ks :: ms, i, x, y :: ys, some id :: ids, st, j, e, hm, hl, h => by
    rcases lendSt_mem (cf := cf) (by simpa [LK.mut] using hm) hl.2.2 h with ⟨h1, h2⟩ | h1
    · rcases setEnt_mem h2 with ⟨h3, h4⟩ | ⟨h3, h4⟩
      · exact .inr (.inl ⟨h3, h4⟩)
      · exact .inl ⟨by simp [h1, h3], h4⟩
    · exact .inr (.inr h1)
  | .b t ks :: ms, i, x, y :: ys, none :: ids, st, j, e, hm, hl, h => by
    rcases lendSt_mem (cf := cf) (by simpa [LK.mut] using hm) hl.2.2 h with ⟨h1, h2⟩ | h1
    · exact .inl ⟨by simp [h1], h2⟩
    · exact .inr h1
  | .c agg (.r e' t) :: ms, i, x, [], ids, st, j, e, hm, hl, h => by cases ids <;> exact hl.elim
  | .c agg (.r e' t) :: ms, i, x, y :: ys, [], st, j, e, hm, hl, h => hl.elim
  | .b t ks :: ms, i, x, [], ids, st, j, e, hm, hl, h => by cases ids <;> exact hl.elim
  | .b t ks :: ms, i, x, y :: ys, [], st, j, e, hm, hl, h => hl.elim

theorem lendSt_ids : ∀ {ms : List LK} {i : Nat} {x : sdens (num i ms)} {ids : List (Option Nat)} {st : St}, (lendSt i ms x ids st).store.map (·.1) = st.store.map (·.1) ∧ (lendSt i ms x ids st).env = st.env
  | [], _, _, _, _ => ⟨rfl, rfl⟩
  | .c agg (.v want t) :: ms, i, x, ids, st => lendSt_ids (ms := ms)
  | .c agg (.r e t) :: ms, i, x, some id :: ids, st => by
    obtain ⟨h1, h2⟩ := lendSt_ids (ms := ms) (i := i + 1) (x := x.2) (ids := ids) (st := st.setEnt id (.row e t x.1))
    exact ⟨h1.trans (setEnt_ids _ _ _), h2⟩
  | .c agg (.r e t) :: ms, i, x, none :: ids, st => lendSt_ids (ms := ms)
  | .c agg (.r e t) :: ms, i, x, [], st => ⟨rfl, rfl⟩
  | .b t ks :: ms, i, x, some id :: ids, st => by
    obtain ⟨h1, h2⟩ := lendSt_ids (ms := ms) (i := i + 1) (x := x.2) (ids := ids) (st := st.setEnt id (.box t (List.replicate (csz ks) .dead)))
    exact ⟨h1.trans (setEnt_ids _ _ _), h2⟩
  | .b t ks :: ms, i, x, none :: ids, st => lendSt_ids (ms := ms)
  | .b t ks :: ms, i, x, [], st => ⟨rfl, rfl⟩

/-- A lent one's new entry is so. -/
theorem LendE.rel {cf c3 cx : Cx} {tR : Array Value} (hw : cx.w = c3.w) (hρ : cx.ρ = cf.ρ) (hI : cx.I = c3.I) (hT : ∀ g, (∃ j, j ∈ cf.D ∧ blk (cf.ρ j) = some g) → ¬ c3.T g → ¬ cx.T g) : ∀ {ms : List LK} {i : Nat} {x : sdens (num i ms)} {ys : List Value} {ids : List (Option Nat)} {j : Nat} {e : Ent},
    (∀ k y, ys[k]? = some y → tR.getD (i + k) undef = y) → LentM cf ms ys ids → ms.all LK.mut = true → SigRel c3 tR (num i ms) x → (∀ g, OBs c3.w tR (num i ms) g → ¬ c3.T g) → LendE i ms x ids j e → entRel cx j e
  | [], _, _, _, _, _, _, _, _, _, _, _, h => h.elim
  | .c agg (.v want t) :: ms, i, x, y :: ys, o :: ids, j, e, hy, hl, hm, hs, hO, h => by simp [LK.mut] at hm
  | .c agg (.r e' t) :: ms, i, x, y :: ys, none :: ids, j, e, hy, hl, hm, hs, hO, h =>
    LendE.rel hw hρ hI hT (ms := ms) (fun k z hk => by rw [show i + 1 + k = i + (k + 1) by omega]; exact hy (k + 1) z (by simpa using hk)) hl.2.2 (by simpa [LK.mut] using hm) hs.2.2 (fun g hg => hO g (.inr hg)) h
  | .c agg (.r e' t) :: ms, i, x, y :: ys, some id :: ids, j, e, hy, hl, hm, hs, hO, h => by
    rcases h with ⟨rfl, rfl⟩ | h
    · have hy0 : tR.getD i undef = y := hy 0 y rfl
      obtain ⟨h1, h2, _⟩ := hl.1
      obtain ⟨⟨_, k1⟩, _, _⟩ := hs
      have k1 : CKsRel c3 [.r e' t] (x.1, ()) (tR.getD i undef).cells.toList := k1
      rw [hy0] at k1
      have hone : y.oneCell' = true := hl.2.1
      rw [one_cells hone] at k1
      obtain ⟨⟨inner, m1, m2⟩, _, _, _⟩ := k1
      refine ⟨inner, by rw [hρ, ← h2, hw]; exact m1, fun g hg => ?_, ?_⟩
      · rw [hρ] at hg
        refine hT g ⟨j, h1, hg⟩ (hO g (.inl ?_))
        show OBc [.r e' t] (tR.getD i undef).cells.toList g
        rw [hy0, one_cells hone]
        exact .inl (by rw [h2]; exact hg)
      · exact rows_rel (S := c3.I) (c := cx) (fun k hk => by rw [hI]; exact hk) m1.1 (fun q z hz => by rw [hw]; exact m2 q z hz)
    · exact LendE.rel hw hρ hI hT (ms := ms) (fun k z hk => by rw [show i + 1 + k = i + (k + 1) by omega]; exact hy (k + 1) z (by simpa using hk)) hl.2.2 (by simpa [LK.mut] using hm) hs.2.2 (fun g hg => hO g (.inr hg)) h
  | .b t ks :: ms, i, x, y :: ys, none :: ids, j, e, hy, hl, hm, hs, hO, h =>
    LendE.rel hw hρ hI hT (ms := ms) (fun k z hk => by rw [show i + 1 + k = i + (k + 1) by omega]; exact hy (k + 1) z (by simpa using hk)) hl.2.2 (by simpa [LK.mut] using hm) hs.2.2 (fun g hg => hO g (.inr hg)) h
  | .b t ks :: ms, i, x, y :: ys, some id :: ids, j, e, hy, hl, hm, hs, hO, h => by
    rcases h with ⟨rfl, rfl⟩ | h
    · have hy0 : tR.getD i undef = y := hy 0 y rfl
      obtain ⟨h1, h2, _⟩ := hl.1
      obtain ⟨⟨gg, conc, e1, e2, e3, e4⟩, _, _⟩ := hs
      rw [hy0] at e1
      obtain ⟨q1, q2⟩ := e3.cells
      refine ⟨gg, conc, by rw [hρ, ← h2]; exact e1, hT gg ⟨j, h1, by rw [← h2, e1]; rfl⟩ (hO gg (.inl ⟨gg, conc, by rw [hy0]; exact e1, e2, .inl rfl⟩)), by rw [hw]; exact e2, ?_⟩
      rw [← q1]
      exact all2_dead _ q2
    · exact LendE.rel hw hρ hI hT (ms := ms) (fun k z hk => by rw [show i + 1 + k = i + (k + 1) by omega]; exact hy (k + 1) z (by simpa using hk)) hl.2.2 (by simpa [LK.mut] using hm) hs.2.2 (fun g hg => hO g (.inr hg)) h
  | .c agg (.v want t) :: ms, i, x, [], ids, j, e, hy, hl, hm, hs, hO, h => by cases ids <;> exact hl.elim
  | .c agg (.v want t) :: ms, i, x, y :: ys, [], j, e, hy, hl, hm, hs, hO, h => hl.elim
  | .c agg (.r e' t) :: ms, i, x, [], ids, j, e, hy, hl, hm, hs, hO, h => by cases ids <;> exact hl.elim
  | .c agg (.r e' t) :: ms, i, x, y :: ys, [], j, e, hy, hl, hm, hs, hO, h => hl.elim
  | .b t ks :: ms, i, x, [], ids, j, e, hy, hl, hm, hs, hO, h => by cases ids <;> exact hl.elim
  | .b t ks :: ms, i, x, y :: ys, [], j, e, hy, hl, hm, hs, hO, h => hl.elim

theorem CKsRel.moveI {c c' : Cx} (hw : c'.w = c.w) (hI : ∀ k, c.I k → c'.I k) : ∀ {ks : List CK} {x : cdens ks} {cs : List Value}, ks.all CK.kept = true → CKsRel c ks x cs → CKsRel c' ks x cs
  | [], _, [], _, _ => trivial
  | [], _, _ :: _, _, h => h.elim
  | .v want t :: ks, x, cs, hk, ⟨h1, h2⟩ => by
    simp only [List.all_cons, CK.kept, Bool.and_eq_true] at hk
    obtain ⟨rfl, hk⟩ := hk
    exact ⟨h1.step (by rw [hw]; exact agree.refl _ _) hI, CKsRel.moveI hw hI hk h2⟩
  | .r e t :: ks, x, y :: rest, hk, ⟨⟨inner, h1, h2⟩, h3, h4, h5⟩ => ⟨⟨inner, by rw [hw]; exact h1, fun j z hz => (h2 j z hz).step (by rw [hw]; exact agree.refl _ _) hI⟩, h3, h4, CKsRel.moveI hw hI (by simpa [CK.kept] using hk) h5⟩
  | .r _ _ :: _, _, [], _, h => h.elim
theorem SigRel.moveI {c c' : Cx} {tmps : Array Value} (hw : c'.w = c.w) (hI : ∀ k, c.I k → c'.I k) : ∀ {ps : List LK} {i : Nat} {x : sdens (num i ps)}, ps.all LK.kept = true → SigRel c tmps (num i ps) x → SigRel c' tmps (num i ps) x
  | [], _, _, _, _ => trivial
  | k :: ps, i, x, hk, ⟨h1, h2, h3⟩ => by
    simp only [List.all_cons, Bool.and_eq_true] at hk
    refine ⟨?_, by rw [hw]; exact h2, SigRel.moveI hw hI hk.2 h3⟩
    cases k with
    | c agg k => exact ⟨h1.1, h1.2.moveI hw hI (by simpa [LK.kept] using hk.1)⟩
    | b t ks =>
      obtain ⟨gg, conc, e1, e2, e3, e4⟩ := h1
      exact ⟨gg, conc, e1, by rw [hw]; exact e2, e3.moveI hw hI (by simpa [LK.kept] using hk.1), e4⟩

theorem keep_kept : ∀ ks : List CK, (keepCs ks).all CK.kept = true
  | [] => rfl
  | .v _ _ :: ks => by simp [keepCs, CK.kept, keep_kept ks]
  | .r _ _ :: ks => by simp [keepCs, CK.kept, keep_kept ks]
theorem muts_kept : ∀ ps : List LK, (muts ps).all LK.kept = true ∧ (muts ps).all LK.mut = true
  | [] => ⟨rfl, rfl⟩
  | .c _ (.v _ _) :: ps => muts_kept ps
  | .c _ (.r _ _) :: ps => by simp [muts, LK.kept, CK.kept, LK.mut, muts_kept ps]
  | .b _ ks :: ps => by simp [muts, LK.kept, keep_kept, LK.mut, muts_kept ps]

/-- The rows in blocks that are given back. -/
def NB (w : World) (tR : Array Value) : List (Nat × LK) → Nat → Prop
  | [], _ => False
  | (s, k) :: sig, g => natBlk k (tR.getD s undef) w g ∨ NB w tR sig g
def GB (w : World) (tR : Array Value) : Nat → List LK → List LK → Nat → Prop
  | i, [], ms, g => NB w tR (num i ms) g
  | i, k :: rs, ms, g => OBe w k (tR.getD i undef) g ∨ GB w tR (i + 1) rs ms g
theorem nat_OBe {k : LK} {y : Value} {w : World} {g : Nat} (h : natBlk k y w g) : OBe w k y g := by
  cases k with
  | c _ _ => exact h.elim
  | b t ks => obtain ⟨gg, conc, e1, e2, e3⟩ := h; exact ⟨gg, conc, e1, e2, .inr e3⟩
theorem NB_OBs {w : World} {tR : Array Value} : ∀ {sig : List (Nat × LK)} {g : Nat}, NB w tR sig g → OBs w tR sig g
  | [], _, h => h.elim
  | (s, k) :: sig, g, h => by
    rcases h with h | h
    · exact .inl (nat_OBe h)
    · exact .inr (NB_OBs h)
theorem GB_OBs {w : World} {tR : Array Value} : ∀ {rs ms : List LK} {i g : Nat}, GB w tR i rs ms g → OBs w tR (num i (rs ++ ms)) g
  | [], ms, i, g, h => NB_OBs h
  | k :: rs, ms, i, g, h => by
    rcases h with h | h
    · exact .inl h
    · exact .inr (GB_OBs h)

theorem LentM.move {c c' : Cx} (hl : ∀ l y, leafRel c l y → leafRel c' l y) : ∀ {ms : List LK} {ys : List Value} {ids : List (Option Nat)}, LentM c ms ys ids → LentM c' ms ys ids
  | [], [], [], _ => trivial
  | _ :: ms, y :: ys, o :: ids, ⟨h1, h2, h3⟩ => by
    refine ⟨?_, h2, LentM.move hl h3⟩
    cases o with
    | none => exact h1
    | some id =>
      obtain ⟨k1, k2, _⟩ := hl (.own id) y ⟨h1.1, h1.2.1, h2⟩
      exact ⟨k1, k2, h1.2.2⟩
  | [], _ :: _, _, h => by cases ‹List (Option Nat)› <;> exact h.elim
  | [], [], _ :: _, h => h.elim
  | _ :: _, [], _, h => by cases ‹List (Option Nat)› <;> exact h.elim
  | _ :: _, _ :: _, [], h => h.elim

theorem notT_D {tmps : Array Value} (hr : Rel c st tmps) {id g : Nat} (hi : id ∈ c.D) (hb : blk (c.ρ id) = some g) : ¬ c.T g := by
  rw [hr.s.ids] at hi
  obtain ⟨e, he⟩ := mem_ids hi
  exact (hr.s.ent id e he).notT hb

theorem backSt_some {tmps tR : Array Value} : ∀ {ms : List LK} {i : Nat} {x : sdens (num i ms)} {ys : List Value} {ids : List (Option Nat)} {st : St} {c : Cx}, ms.all LK.mut = true → Rel c st tmps → (∀ k y, ys[k]? = some y → tR.getD (i + k) undef = y) → LentM c ms ys ids → SigRel c tR (num i ms) x →
    (∀ g, NB c.w tR (num i ms) g → ¬ c.T g ∧ ∀ j, j ∈ c.D → blk (c.ρ j) ≠ some g) →
    ∃ c', Rel c' (backSt i ms x ids st) tmps ∧ Step c c' ∧ c'.w = c.w ∧ (∀ l y, leafRel c l y → leafRel c' l y) ∧ ∀ j, j ∈ c'.D → (j ∈ c.D ∧ c'.ρ j = c.ρ j) ∨ ∀ g, blk (c'.ρ j) = some g → NB c.w tR (num i ms) g
  | [], i, x, ys, ids, st, c, _, hr, _, _, _, _ => ⟨c, hr, Step.refl c, rfl, fun _ _ h => h, fun j hj => .inl ⟨hj, rfl⟩⟩
  | .c agg (.v want t) :: ms, i, x, ys, ids, st, c, hm, hr, hy, hl, hs, hN => by simp [LK.mut] at hm
  | .c agg (.r e t) :: ms, i, x, y :: ys, o :: ids, st, c, hm, hr, hy, hl, hs, hN => by
    obtain ⟨c', k1, k2, k3, k4, k5⟩ := backSt_some (ms := ms) (i := i + 1) (x := x.2) (by simpa [LK.mut] using hm) hr (fun k z hk => by rw [show i + 1 + k = i + (k + 1) by omega]; exact hy (k + 1) z (by simpa using hk)) hl.2.2 hs.2.2 (fun g hg => hN g (.inr hg))
    exact ⟨c', k1, k2, k3, k4, fun j hj => (k5 j hj).imp (fun h => h) fun h g hg => .inr (h g hg)⟩
  | .b t ks :: ms, i, x, y :: ys, none :: ids, st, c, hm, hr, hy, hl, hs, hN => by
    obtain ⟨c', k1, k2, k3, k4, k5⟩ := backSt_some (ms := ms) (i := i + 1) (x := x.2) (by simpa [LK.mut] using hm) hr (fun k z hk => by rw [show i + 1 + k = i + (k + 1) by omega]; exact hy (k + 1) z (by simpa using hk)) hl.2.2 hs.2.2 (fun g hg => hN g (.inr hg))
    exact ⟨c', k1, k2, k3, k4, fun j hj => (k5 j hj).imp (fun h => h) fun h g hg => .inr (h g hg)⟩
  | .b t ks :: ms, i, x, y :: ys, some id :: ids, st, c, hm, hr, hy, hl, hs, hN => by
    have hy0 : tR.getD i undef = y := hy 0 y rfl
    obtain ⟨⟨gg, conc, e1, e2, e3, e4⟩, hd, hs2⟩ := hs
    rw [hy0] at e1
    have hidρ : c.ρ id = .pointer (some ⟨gg, 0, none⟩) := by rw [← hl.1.2.1]; exact e1
    obtain ⟨c1, k1, k2, k3, k4, k5, k6, k7, k8⟩ := putCKs_some (st := st) hr e3 (fun g hg => hN g (.inl ⟨gg, conc, by rw [hy0]; exact e1, e2, hg⟩))
    obtain ⟨p1, g', p2, p3⟩ := k7 (.ptr id 0) y ⟨hl.1.1, gg, hidρ, by rw [hl.1.2.1]; exact hidρ⟩
    have hgg : g' = gg := by rw [e1] at p3; injection p3 with p3; injection p3 with p3; injection p3 with p3 _ _; exact p3.symm
    rw [hgg] at p2
    have hset := k1.setEnt (id := id) (e := .box t (putCKs ks x.1 st).1) ⟨gg, conc, p2, notT_D k1 p1 (by rw [p2]; rfl), by rw [k3]; exact e2, k6⟩
    obtain ⟨c', q1, q2, q3, q4, q5⟩ := backSt_some (ms := ms) (i := i + 1) (x := x.2) (by simpa [LK.mut] using hm) hset (fun k z hk => by rw [show i + 1 + k = i + (k + 1) by omega]; exact hy (k + 1) z (by simpa using hk)) (hl.2.2.move k7)
      (hs2.move k3 (by rw [k5]; exact fun _ h => h) (by rw [k4]; exact fun _ h => h)) (fun g hg => by
        rw [k3] at hg
        refine ⟨by rw [k4]; exact (hN g (.inr hg)).1, fun j hj hb => ?_⟩
        rcases k8 j hj with ⟨h8, h9⟩ | h8
        · rw [h9] at hb
          exact (hN g (.inr hg)).2 j h8 hb
        · exact hd g ⟨gg, conc, by rw [hy0]; exact e1, e2, .inr (h8 g hb)⟩ (NB_OBs hg))
    refine ⟨c', q1, k2.trans q2, q3.trans k3, fun l z h => q4 _ _ (k7 _ _ h), fun j hj => ?_⟩
    rcases q5 j hj with ⟨h8, h9⟩ | h8
    · rcases k8 j h8 with ⟨m8, m9⟩ | m8
      · exact .inl ⟨m8, h9.trans m9⟩
      · refine .inr fun g hg => .inl ⟨gg, conc, by rw [hy0]; exact e1, e2, m8 g ?_⟩
        rw [← h9]; exact hg
    · refine .inr fun g hg => .inr ?_
      rw [← k3]
      exact h8 g hg
  | .c agg (.r e t) :: ms, i, x, [], ids, st, c, hm, hr, hy, hl, hs, hN => by cases ids <;> exact hl.elim
  | .c agg (.r e t) :: ms, i, x, y :: ys, [], st, c, hm, hr, hy, hl, hs, hN => hl.elim
  | .b t ks :: ms, i, x, [], ids, st, c, hm, hr, hy, hl, hs, hN => by cases ids <;> exact hl.elim
  | .b t ks :: ms, i, x, y :: ys, [], st, c, hm, hr, hy, hl, hs, hN => hl.elim

theorem giveAll_some {tmps tR : Array Value} : ∀ {rs ms : List LK} {i : Nat} {x : sdens (num i (rs ++ ms))} {zs ys : List Value} {ids : List (Option Nat)} {st : St} {c : Cx}, ms.all LK.mut = true → zs.length = rs.length → Rel c st tmps → (∀ k y, (zs ++ ys)[k]? = some y → tR.getD (i + k) undef = y) → LentM c ms ys ids → SigRel c tR (num i (rs ++ ms)) x →
    (∀ g, GB c.w tR i rs ms g → ¬ c.T g ∧ ∀ j, j ∈ c.D → blk (c.ρ j) ≠ some g) →
    ∃ c', Rel c' (giveAll i rs ms x ids st).2 tmps ∧ Step c c' ∧ c'.w = c.w ∧ All2 (v1Rel c') (giveAll i rs ms x ids st).1 zs ∧ (∀ l y, leafRel c l y → leafRel c' l y) ∧ ∀ j, j ∈ c'.D → (j ∈ c.D ∧ c'.ρ j = c.ρ j) ∨ ∀ g, blk (c'.ρ j) = some g → GB c.w tR i rs ms g
  | [], ms, i, x, zs, ys, ids, st, c, hm, hz, hr, hy, hl, hs, hG => by
    cases zs with
    | cons _ _ => cases hz
    | nil =>
      obtain ⟨c', k1, k2, k3, k4, k5⟩ := backSt_some hm hr hy hl hs hG
      exact ⟨c', k1, k2, k3, trivial, k4, k5⟩
  | .c agg k :: rs, ms, i, x, [], ys, ids, st, c, hm, hz, hr, hy, hl, hs, hG => by cases hz
  | .b t ks :: rs, ms, i, x, [], ys, ids, st, c, hm, hz, hr, hy, hl, hs, hG => by cases hz
  | .c agg k :: rs, ms, i, x, z :: zs, ys, ids, st, c, hm, hz, hr, hy, hl, ⟨⟨h1, h2⟩, h3, h4⟩, hG => by
    have hz0 : tR.getD i undef = z := hy 0 z rfl
    rw [hz0] at h1 h2 h3
    obtain ⟨c1, k1, k2, k3, k4, k5, k6, k7, k8⟩ := putCKs_some (st := st) hr h2 (fun g hg => hG g (.inl (by rw [hz0]; exact hg)))
    obtain ⟨c', q1, q2, q3, q4, q5, q6⟩ := giveAll_some (rs := rs) (i := i + 1) (x := x.2) (zs := zs) hm (by simpa using hz) k1 (fun k y hk => by rw [show i + 1 + k = i + (k + 1) by omega]; exact hy (k + 1) y (by simpa using hk)) (hl.move k7)
      (h4.move k3 (by rw [k5]; exact fun _ h => h) (by rw [k4]; exact fun _ h => h)) (fun g hg => by
        rw [k3] at hg
        refine ⟨by rw [k4]; exact (hG g (.inr hg)).1, fun j hj hb => ?_⟩
        rcases k8 j hj with ⟨h8, h9⟩ | h8
        · rw [h9] at hb
          exact (hG g (.inr hg)).2 j h8 hb
        · exact h3 g (h8 g hb) (GB_OBs hg))
    refine ⟨c', q1, k2.trans q2, q3.trans k3, ⟨v1Rel.imp q5 (ofLv_rel k6 h1), q4⟩, fun l y h => q5 _ _ (k7 _ _ h), fun j hj => ?_⟩
    rcases q6 j hj with ⟨h8, h9⟩ | h8
    · rcases k8 j h8 with ⟨m8, m9⟩ | m8
      · exact .inl ⟨m8, h9.trans m9⟩
      · refine .inr fun g hg => .inl ?_
        rw [hz0]
        exact m8 g (by rw [← h9]; exact hg)
    · refine .inr fun g hg => .inr ?_
      rw [← k3]
      exact h8 g hg
  | .b t ks :: rs, ms, i, x, z :: zs, ys, ids, st, c, hm, hz, hr, hy, hl, ⟨⟨gg, conc, e1, e2, e3, e4⟩, h3, h4⟩, hG => by
    have hz0 : tR.getD i undef = z := hy 0 z rfl
    rw [hz0] at e1
    have hOB : ∀ g, OBc ks conc.toList g → OBe c.w (.b t ks) (tR.getD i undef) g := fun g hg => ⟨gg, conc, by rw [hz0]; exact e1, e2, .inr hg⟩
    have hOg : OBe c.w (.b t ks) (tR.getD i undef) gg := ⟨gg, conc, by rw [hz0]; exact e1, e2, .inl rfl⟩
    obtain ⟨c1, k1, k2, k3, k4, k5, k6, k7, k8⟩ := putCKs_some (st := st) hr e3 (fun g hg => hG g (.inl (hOB g hg)))
    have hgg := hG gg (.inl hOg)
    have hl1 := leaf_grow (st := (putCKs ks x.1 st).2) (w1 := c1.w) (y0 := z) k1.s (fun _ _ => rfl)
    have hρ : (c1.grow c1.w (fresh (putCKs ks x.1 st).2.store) z).ρ (fresh (putCKs ks x.1 st).2.store) = z := if_pos rfl
    have hρo : ∀ j, j ∈ c1.D → (c1.grow c1.w (fresh (putCKs ks x.1 st).2.store) z).ρ j = c1.ρ j := fun j hj => if_neg (fresh_not j (by rw [← k1.s.ids]; exact hj))
    obtain ⟨p1, p2⟩ := k1.growA (w1 := c1.w) (y0 := z) (e := .box t (putCKs ks x.1 st).1) (fun _ _ => rfl) (Below.refl _ _) (fun g hg i hi hb => by
      rw [e1] at hg
      have hg' : gg = g := by simpa [blk] using hg
      subst hg'
      rcases k8 i hi with ⟨h8, h9⟩ | h8
      · rw [h9] at hb
        exact hgg.2 i h8 hb
      · exact e4 (h8 gg hb))
      ⟨gg, conc, by rw [hρ]; exact e1, by show ¬ c1.T gg; rw [k4]; exact hgg.1, by show c1.w.heap[gg]? = _; rw [k3]; exact e2, k6.mono hl1⟩
    obtain ⟨c', q1, q2, q3, q4, q5, q6⟩ := giveAll_some (rs := rs) (i := i + 1) (x := x.2) (zs := zs) (c := c1.grow c1.w (fresh (putCKs ks x.1 st).2.store) z) hm (by simpa using hz) p1 (fun k y hk => by rw [show i + 1 + k = i + (k + 1) by omega]; exact hy (k + 1) y (by simpa using hk)) ((hl.move k7).move hl1)
      (h4.move (c := c) (c' := c1.grow c1.w (fresh (putCKs ks x.1 st).2.store) z) k3 (fun k hk => by show c1.I k; rw [k5]; exact hk) (fun k hk => by show c1.T k; rw [k4]; exact hk)) (fun g hg => by
        have hg : GB c.w tR (i + 1) rs ms g := by rw [← k3]; exact hg
        refine ⟨by show ¬ c1.T g; rw [k4]; exact (hG g (.inr hg)).1, fun j hj hb => ?_⟩
        rcases List.mem_append.mp hj with hj | hj
        · rw [hρo j hj] at hb
          rcases k8 j hj with ⟨h8, h9⟩ | h8
          · rw [h9] at hb
            exact (hG g (.inr hg)).2 j h8 hb
          · exact h3 g (hOB g (h8 g hb)) (GB_OBs hg)
        · rw [List.mem_singleton] at hj
          rw [hj, hρ, e1] at hb
          have hb' : gg = g := by simpa [blk] using hb
          subst hb'
          exact h3 gg hOg (GB_OBs hg))
    refine ⟨c', q1, (k2.trans p2).trans q2, q3.trans k3, ⟨q5 (.ptr (fresh (putCKs ks x.1 st).2.store) 0) z ⟨List.mem_append_right _ (List.mem_singleton.mpr rfl), gg, by rw [hρ]; exact e1, e1⟩, q4⟩, fun l y h => q5 _ _ (hl1 _ _ (k7 _ _ h)), fun j hj => ?_⟩
    rcases q6 j hj with ⟨h8, h9⟩ | h8
    · rcases List.mem_append.mp h8 with h8 | h8
      · rw [hρo j h8] at h9
        rcases k8 j h8 with ⟨m8, m9⟩ | m8
        · exact .inl ⟨m8, h9.trans m9⟩
        · refine .inr fun g hg => .inl (hOB g (m8 g ?_))
          rw [← h9]; exact hg
      · rw [List.mem_singleton] at h8
        refine .inr fun g hg => .inl ?_
        rw [h9, h8, hρ, e1] at hg
        have hb' : gg = g := by simpa [blk] using hg
        rw [← hb']
        exact hOg
    · refine .inr fun g hg => .inr ?_
      have := h8 g hg
      rw [← k3]
      exact this

/-- A lent one's block is one of those that are given back. -/
theorem main_OBs {cf c3 : Cx} {tR : Array Value} {j g : Nat} (hb : blk (cf.ρ j) = some g) : ∀ {ms : List LK} {i : Nat} {x : sdens (num i ms)} {ys : List Value} {ids : List (Option Nat)}, ms.all LK.mut = true → (∀ k y, ys[k]? = some y → tR.getD (i + k) undef = y) → LentM cf ms ys ids → SigRel c3 tR (num i ms) x → some j ∈ ids →
    OBs c3.w tR (num i ms) g ∧ ¬ NB c3.w tR (num i ms) g
  | [], i, x, ys, ids, _, hy, hl, hs, hj => by
    cases ids with
    | nil => cases hj
    | cons _ _ => cases ys <;> exact hl.elim
  | k :: ms, i, x, [], ids, hm, hy, hl, hs, hj => by cases ids <;> exact hl.elim
  | k :: ms, i, x, y :: ys, [], hm, hy, hl, hs, hj => hl.elim
  | k :: ms, i, x, y :: ys, o :: ids, hm, hy, hl, hs, hj => by
    have hy0 : tR.getD i undef = y := hy 0 y rfl
    obtain ⟨h1, h2, h3⟩ := hs
    simp only [List.all_cons, Bool.and_eq_true] at hm
    have rest : some j ∈ ids → OBs c3.w tR (num i (k :: ms)) g ∧ ¬ NB c3.w tR (num i (k :: ms)) g := by
      intro hj
      obtain ⟨k1, k2⟩ := main_OBs hb hm.2 (fun k z hk => by rw [show i + 1 + k = i + (k + 1) by omega]; exact hy (k + 1) z (by simpa using hk)) hl.2.2 h3 hj
      refine ⟨.inr k1, fun h => ?_⟩
      rcases h with h | h
      · exact h2 g (nat_OBe h) k1
      · exact k2 h
    rcases List.mem_cons.mp hj with rfl | hj
    · obtain ⟨q1, q2, q3⟩ := hl.1
      have hOB : OBe c3.w k (tR.getD i undef) g := by
        rw [hy0]
        cases k with
        | c agg k =>
          cases k with
          | v want t => simp [LK.mut] at hm
          | r e t =>
            show OBc [.r e t] y.cells.toList g
            rw [one_cells hl.2.1]
            exact .inl (by rw [q2]; exact hb)
        | b t ks =>
          obtain ⟨gg, conc, e1, e2, e3, e4⟩ := h1
          rw [hy0] at e1
          refine ⟨gg, conc, e1, e2, .inl ?_⟩
          rw [← q2, e1] at hb
          injection hb with hb
          exact hb.symm
      refine ⟨.inl hOB, fun h => ?_⟩
      rcases h with h | h
      · cases k with
        | c _ _ => exact h.elim
        | b t ks =>
          obtain ⟨gg, conc, e1, e2, e3, e4⟩ := h1
          obtain ⟨gg2, conc2, f1, f2, f3⟩ := h
          rw [e1] at f1
          injection f1 with f1
          injection f1 with f1
          injection f1 with f1 _ _
          subst f1
          rw [e2] at f2
          injection f2 with f2
          injection f2 with f2 _ _
          subst f2
          rw [hy0, q2] at e1
          rw [e1] at hb
          injection hb with hb
          have hb : gg = g := hb
          rw [← hb] at f3
          exact e4 f3
      · exact h2 g hOB (NB_OBs h)
    · exact rest hj

theorem GB_main {cf c3 : Cx} {tR : Array Value} {j g : Nat} (hb : blk (cf.ρ j) = some g) : ∀ {rs ms : List LK} {i : Nat} {x : sdens (num i (rs ++ ms))} {zs ys : List Value} {ids : List (Option Nat)}, ms.all LK.mut = true → zs.length = rs.length → (∀ k y, (zs ++ ys)[k]? = some y → tR.getD (i + k) undef = y) → LentM cf ms ys ids → SigRel c3 tR (num i (rs ++ ms)) x → some j ∈ ids →
    OBs c3.w tR (num i (rs ++ ms)) g ∧ ¬ GB c3.w tR i rs ms g
  | [], ms, i, x, zs, ys, ids, hm, hz, hy, hl, hs, hj => by
    cases zs with
    | cons _ _ => cases hz
    | nil => exact main_OBs hb hm hy hl hs hj
  | k :: rs, ms, i, x, [], ys, ids, hm, hz, hy, hl, hs, hj => by cases hz
  | k :: rs, ms, i, x, z :: zs, ys, ids, hm, hz, hy, hl, ⟨_, h2, h3⟩, hj => by
    obtain ⟨k1, k2⟩ := GB_main (rs := rs) (i := i + 1) (x := x.2) (zs := zs) hb hm (by simpa using hz) (fun k y hk => by rw [show i + 1 + k = i + (k + 1) by omega]; exact hy (k + 1) y (by simpa using hk)) hl h3 hj
    refine ⟨.inr k1, fun h => ?_⟩
    rcases h with h | h
    · exact h2 g h k1
    · exact k2 h

theorem lendAll_ids : ∀ {rs ms : List LK} {i : Nat} {x : sdens (num i (rs ++ ms))} {ids : List (Option Nat)} {st : St}, (lendAll i rs ms x ids st).store.map (·.1) = st.store.map (·.1) ∧ (lendAll i rs ms x ids st).env = st.env
  | [], ms, i, x, ids, st => lendSt_ids
  | _ :: rs, ms, i, x, ids, st => lendAll_ids (rs := rs)

theorem lendAll_ent {cf c3 cx : Cx} {tR : Array Value} (hw : cx.w = c3.w) (hρ : cx.ρ = cf.ρ) (hI : cx.I = c3.I) (hT : ∀ g, (∃ j, j ∈ cf.D ∧ blk (cf.ρ j) = some g) → ¬ c3.T g → ¬ cx.T g) : ∀ {rs ms : List LK} {i : Nat} {x : sdens (num i (rs ++ ms))} {zs ys : List Value} {ids : List (Option Nat)} {st : St} {j : Nat} {e : Ent}, ms.all LK.mut = true → zs.length = rs.length →
    (∀ k y, (zs ++ ys)[k]? = some y → tR.getD (i + k) undef = y) → LentM cf ms ys ids → SigRel c3 tR (num i (rs ++ ms)) x → (∀ g, OBs c3.w tR (num i (rs ++ ms)) g → ¬ c3.T g) → (j, e) ∈ (lendAll i rs ms x ids st).store → (some j ∉ ids ∧ (j, e) ∈ st.store) ∨ entRel cx j e
  | [], ms, i, x, zs, ys, ids, st, j, e, hm, hz, hy, hl, hs, hO, h => by
    cases zs with
    | cons _ _ => cases hz
    | nil =>
      rcases lendSt_mem hm hl h with h1 | h1
      · exact .inl h1
      · exact .inr (LendE.rel hw hρ hI hT hy hl hm hs hO h1)
  | k :: rs, ms, i, x, [], ys, ids, st, j, e, hm, hz, hy, hl, hs, hO, h => by cases hz
  | k :: rs, ms, i, x, z :: zs, ys, ids, st, j, e, hm, hz, hy, hl, hs, hO, h =>
    lendAll_ent (rs := rs) (i := i + 1) (x := x.2) (zs := zs) hw hρ hI hT hm (by simpa using hz) (fun k y hk => by rw [show i + 1 + k = i + (k + 1) by omega]; exact hy (k + 1) y (by simpa using hk)) hl hs.2.2 (fun g hg => hO g (.inr hg)) h

theorem mutNums_nil : ∀ {ps : List LK} {i : Nat}, mutNums (num i ps) = [] → ps.any LK.mut = false
  | [], _, _ => rfl
  | .c _ (.v _ _) :: ps, i, h => by
    have := mutNums_nil (ps := ps) (i := i + 1) h
    simpa [LK.mut] using this
  | .c _ (.r _ _) :: ps, i, h => by simp [num, mutNums, LK.mut] at h
  | .b _ _ :: ps, i, h => by simp [num, mutNums, LK.mut] at h
theorem num_length : ∀ (ps : List LK) (i : Nat), (num i ps).length = ps.length
  | [], _ => rfl
  | _ :: ps, i => by simp [num, num_length ps]

theorem conOf_ok (htb : tb.ok P) {f : FuncId} {fn : Func} (hla : ∀ code, fn.body = some code → LpAll tb code) (hf : P.funcs[f]? = some fn) (henter : ∀ args w, (callFunc f args).run P w = .ok (.enter f args) w) {ps rs : List LK} (hk : rs.all LK.kept = true) (hfx : tb.fixed = mutNums (num 0 ps)) {F : pdens ps → Option (rdens ps rs)}
    (h : ∀ xs, evSig tb fn ps rs xs = F xs) : Con.ok P f (conOf ps rs F) := by
  refine ⟨henter, fun {R} lim K r vs args c st tmps hrun hr hv => ?_⟩
  obtain ⟨xs, ids, st1, c1, h1, h2, h3, h4, h5, h6, h7⟩ := readArgs_some (c0 := c) (ps := ps) (tA := argTmps fn args) hrun hr (Later.refl hr.s) hv (fun j y hj => by
    have hlt : j < args.size := by
      have := (List.getElem?_eq_some_iff.mp hj).1
      rwa [Array.length_toList] at this
    rw [Array.getElem?_toList] at hj
    unfold argTmps
    rw [Nat.zero_add, Array.getD_eq_getD_getElem?, Array.getElem?_append_left hlt, hj]
    rfl)
  rw [List.nil_append] at h1
  split at h1
  rotate_left
  · cases h1
  rename_i hp
  split at h1
  rotate_left
  · cases h1
  rename_i ys hys
  rw [← h xs] at hys
  have hD := present_D h2.s hp
  have hown := Arg.owner h4 hD
  have hO1 : ∀ g, OBs c1.w (argTmps fn args) (num 0 ps) g → ¬ c1.T g := by
    intro g hg
    rcases hown g hg with ⟨id, g1, g2⟩ | ⟨g1, _⟩
    · exact notT_D h2 (hD id g1) g2
    · exact g1
  let ci := c1.lend (argTmps fn args) (num 0 ps)
  have hc1T : ∀ k, c1.T k → ci.T k := fun k hk => ⟨h2.s.lt k hk, fun hO => hO1 k hO hk⟩
  have hsig : SigRel ci (argTmps fn args) (num 0 ps) xs := Arg.sig (cf := c1) (ci := ci) rfl (fun _ h => h) hc1T (fun hm k hk => ⟨hk, any_num hm⟩) h2.s.apart h4 hD
  have hcall := evFn_calls (c := ci) htb hla hf hys (by rw [num_length, ← h7, Array.length_toList]) rfl (fun k hk => hc1T k (h2.s.sub k hk)) (fun k hk => hk.1) hsig (fun g hg hT => hT.2 hg)
  rw [← h3.w]
  refine hcall.mono fun e w' hh => ?_
  obtain ⟨c2, vs2, zs, st2, tmps2, rfl, k1, k2, k3, k4, rfl, k5⟩ := hh
  split at k1
  rotate_left
  · cases k1
  rename_i ms hms
  split at k1
  rotate_left
  · cases k1
  rename_i hlen
  have hmv := mutVals_rel k2 hms
  have hmap : (mutNums (num 0 ps)).map (fun s => tmps2.getD s undef) = (mutNums (num 0 ps)).map (fun s => (argTmps fn args).getD s undef) := List.map_congr_left fun s hs => k5 s (by rw [hfx]; exact hs)
  rw [hmap] at hmv
  generalize hmvv : (mutNums (num 0 ps)).map (fun s => (argTmps fn args).getD s undef) = mv at hmv
  have hrR : Rel c2 { env := (vs2 ++ ms).map .one, store := st2.store } (zs ++ mv).toArray := ⟨k2.s, by
    show All2 _ _ (zs ++ mv).toArray.toList
    simp only
    exact All2.map (k3.append hmv)⟩
  obtain ⟨ys', c3, g1, g2, g3, g4, g5, g6⟩ := getVals_some k1 hrR
  injection g1 with g1
  subst g1
  have hzl : zs.length = rs.length := by rw [← k3.length, hlen]
  generalize htR : (zs ++ mv).toArray = tR at g5 g6
  have hy : ∀ k y, (zs ++ mv)[k]? = some y → tR.getD (0 + k) undef = y := by
    intro k y hk
    rw [← htR, Nat.zero_add, Array.getD_eq_getD_getElem?]
    simp only [List.getElem?_toArray, hk]
    rfl
  have hlent := Arg.lent h4 hD
  rw [hmvv] at hlent
  have hO3 : ∀ g, OBs c3.w tR (num 0 (rs ++ muts ps)) g → ¬ c3.T g := fun g hg => (g6 g (by rw [← g2.w]; exact hg)).2
  -- how the callee's end lies to the caller's
  have hst : Step ci c3 := k4.trans g2.step
  have hag : ∀ k, ci.T k → c3.w.heap[k]? = c1.w.heap[k]? := fun k hk => hst.agree k hk
  have hsz : c1.w.heap.size ≤ c3.w.heap.size := hst.below.size
  have hnew : ∀ k, c3.I k → c1.I k ∨ ¬ ci.T k := hst.new
  have hI : ∀ k, c1.I k → c3.I k := hst.I
  have hT3 : ∀ k, ci.T k → c3.T k := hst.T
  let cx : Cx := { D := c1.D, I := c3.I, T := fun k => c1.T k ∨ c3.I k, w := c3.w, ρ := c1.ρ }
  have hfree : ∀ j g, j ∈ c1.D → some j ∉ ids → blk (c1.ρ j) = some g → ci.T g := by
    intro j g hj hnl hb
    have hjD := hj
    rw [h2.s.ids] at hj
    obtain ⟨e', he'⟩ := mem_ids hj
    refine ⟨(h2.s.ent j e' he').lt hb, fun hO => ?_⟩
    rcases hown g hO with ⟨id, q1, q2⟩ | ⟨_, q1⟩
    · exact h2.s.apart j id g hjD (hD id q1) (fun e => hnl (by rw [e]; exact q1)) hb q2
    · exact q1 j hjD hb
  have hnT : ∀ g, (∃ j, j ∈ c1.D ∧ blk (c1.ρ j) = some g) → ¬ c3.T g → ¬ cx.T g := by
    rintro g ⟨j, q1, q2⟩ q3 (q4 | q4)
    · exact notT_D h2 q1 q2 q4
    · exact q3 (g3 g q4)
  have hml : ∀ l y, leafRel c1 l y → leafRel cx l y := fun l y hl => leafRel.move (c' := cx) (fun k hk => hag k (hc1T k hk)) h2.s.sub (fun _ h => .inl h) hI (fun i _ hi => ⟨hi, rfl⟩) hl
  have hstep : Step c1 cx := ⟨hst.below, fun k hk => hag k (hc1T k hk), fun k hk => .inl hk, hI, fun k hk => by
    rcases hnew k hk with h9 | h9
    · exact .inl h9
    · exact .inr fun hT => h9 (hc1T k hT)⟩
  have hmu := muts_kept ps
  have hrx : Rel cx (lendAll 0 rs (muts ps) ys' ids st1) tmps := by
    obtain ⟨l1, l2⟩ := lendAll_ids (rs := rs) (ms := muts ps) (i := 0) (x := ys') (ids := ids) (st := st1)
    refine ⟨⟨by rw [l1]; exact h2.s.ids, h2.s.nodup, fun j e he => ?_, h2.s.apart, fun k hk => .inr hk, fun k hk => ?_⟩, by rw [l2]; exact h2.env.mono fun _ _ => avRel.imp hml⟩
    · rcases lendAll_ent (cf := c1) (c3 := c3) (cx := cx) rfl rfl rfl hnT hmu.2 hzl hy hlent g5 hO3 he with ⟨q1, q2⟩ | q1
      · have hent := h2.s.ent j e q2
        have hjD : j ∈ c1.D := by rw [h2.s.ids]; exact List.mem_map.mpr ⟨_, q2, rfl⟩
        have := hent.move (c1 := cx) (f := fun l => l) hml (fun _ _ => rfl) rfl (fun g hg => hag g (hfree j g hjD q1 hg)) (fun g hg => by
          rintro (h9 | h9)
          · exact hent.notT hg h9
          · rcases hnew g h9 with h8 | h8
            · exact hent.notT hg (h2.s.sub g h8)
            · exact h8 (hfree j g hjD q1 hg))
        rwa [mapE_id (fun _ => rfl)] at this
      · exact q1
    · rcases hk with hk | hk
      · exact Nat.lt_of_lt_of_le (h2.s.lt k hk) hsz
      · exact g4 k (g3 k hk)
  have hGO : ∀ g, GB c3.w tR 0 rs (muts ps) g → ¬ c3.T g := fun g hg => hO3 g (GB_OBs hg)
  have hG : ∀ g, GB cx.w tR 0 rs (muts ps) g → ¬ cx.T g ∧ ∀ j, j ∈ cx.D → blk (cx.ρ j) ≠ some g := by
    intro g hg
    have hn3 := hGO g hg
    refine ⟨?_, fun j hj hb => ?_⟩
    · rintro (h9 | h9)
      · exact hn3 (hT3 g (hc1T g h9))
      · exact hn3 (g3 g h9)
    · by_cases hjl : some j ∈ ids
      · exact (GB_main (cf := c1) hb hmu.2 hzl hy hlent g5 hjl).2 hg
      · exact hn3 (hT3 g (hfree j g hj hjl hb))
  obtain ⟨c4, m1, m2, m3, m4, m5, m6⟩ := giveAll_some (c := cx) hmu.2 hzl hrx hy (hlent.move hml) (g5.moveI (c := c3) (c' := cx) rfl (fun _ h => h) (by rw [List.all_append, hk, hmu.1]; rfl)) hG
  refine ⟨_, _, c4, mkRes zs, rfl, h1, m1, resAV_rel m4, (h3.step.trans hstep).trans m2, fun M hM => ?_, by rw [m3]; exact g2.w⟩
  have hstolen : ∀ g, g < c.w.heap.size → ¬ c3.T g → OBs c1.w (argTmps fn args) (num 0 ps) g := by
    intro g hlt hn
    have : ¬ ci.T g := fun h => hn (hT3 g h)
    by_cases hO : OBs c1.w (argTmps fn args) (num 0 ps) g
    · exact hO
    · exact absurd ⟨by rw [h3.w]; exact hlt, hO⟩ this
  have hK : ∀ g, OBs c1.w (argTmps fn args) (num 0 ps) g → ∃ j, j ∈ c.D ∧ blk (c.ρ j) = some g ∧ j ∈ M ∧ ((c.ρ j).ownBlock = some g ∨ some j ∈ ids) := by
    intro g hg
    rcases hM with hM | hM
    · rw [h3.w] at hg
      obtain ⟨j, q1, q2, q3, q4⟩ := h5 g hg
      exact ⟨j, q1, q2, q3 M hM, q4⟩
    · exact absurd hg (any_num (mutNums_nil (ps := ps) (i := 0) hM))
  refine ⟨by rw [m3, ← h3.w]; exact hsz, fun k hlt _ hm => ?_, fun i hi g hg hlt => ?_, fun i hiM hi g hg hlt => ?_⟩
  · rw [m3, ← h3.w]
    refine hag k ⟨by rw [h3.w]; exact hlt, fun hO => ?_⟩
    obtain ⟨j, q1, q2, q3, _⟩ := hK k hO
    exact hm j q3 q1 q2
  · rcases m6 i hi with ⟨q1, q2⟩ | q1
    · exact ⟨i, h3.D i q1, by rw [← h3.ρ i q1]; rw [q2] at hg; exact hg⟩
    · have hGg := q1 g (ownBlock_blk hg)
      obtain ⟨j, p1, p2, _, p4⟩ := hK g (hstolen g hlt (hGO g hGg))
      rcases p4 with p4 | p4
      · exact ⟨j, p1, p4⟩
      · have hj1 := hD j p4
        exact absurd hGg (GB_main (cf := c1) (by rw [h3.ρ j hj1]; exact p2) hmu.2 hzl hy hlent g5 p4).2
  · rcases m6 i hi with ⟨q1, q2⟩ | q1
    · exact ⟨i, hiM, h3.D i q1, by rw [← h3.ρ i q1]; rw [q2] at hg; exact hg⟩
    · obtain ⟨j, p1, p2, p3, _⟩ := hK g (hstolen g hlt (hGO g (q1 g hg)))
      exact ⟨j, p3, p1, p2⟩

/-- A function that comes to nothing. -/
theorem con_none {f : FuncId} {ps rs : List LK} {F : pdens ps → Option (rdens ps rs)} (henter : ∀ args w, (callFunc f args).run P w = .ok (.enter f args) w) (h : ∀ x, F x = none) : Con.ok P f (conOf ps rs F) := by
  refine ⟨henter, fun {R} lim K r vs args c st tmps hrun hr hv => ?_⟩
  obtain ⟨xs, ids, st1, c1, h1, _⟩ := readArgs_some (c0 := c) (ps := ps) (tA := args) hrun hr (Later.refl hr.s) hv (fun j y hj => by
    rw [Array.getElem?_toList] at hj
    rw [Nat.zero_add, Array.getD_eq_getD_getElem?, hj]
    rfl)
  rw [h xs] at h1
  split at h1 <;> cases h1

end
end Go.Proofs.Ytaehbfaldofmbaa.Ev
