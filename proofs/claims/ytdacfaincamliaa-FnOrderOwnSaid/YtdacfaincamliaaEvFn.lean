/- The evaluator's calls, out of functions' signatures. Conditions: none. -/
import Derived.Test.YtdacfaincamliaaEvCode
namespace Go.Proofs.Ytdacfaincamliaa.Ev
open Go Go.RowKit

section
variable {P : Program} {R : Type} {tb : Tb} {c : Cx} {st : St} {r : R}

/-! ### Results -/
theorem evLoad_ptr {t : TypeId} {p : AV} {K' : AV → Option R} {y : Value} (h : evLoad tb t p st K' = some r) (hp : avRel c p y) : ∃ ad, y = .pointer (some ad) := by
  unfold evLoad at h
  split at h
  · cases h
  · simp only at h
    split at h
    · obtain ⟨_, g, _, h1⟩ := hp; exact ⟨_, h1⟩
    · obtain ⟨_, g, n, m, _, h1⟩ := hp; exact ⟨_, h1⟩
    · obtain ⟨ad, h1, _⟩ := hp; exact ⟨ad, h1⟩
    · cases h

def resOne (tmps : Array Value) : ResultVar → Sem Value
  | .tmp t => pure (tmps.getD t undef)
  | .cell a t => do loadVar t (← asAddr (tmps.getD a undef))

theorem evRes_run (htb : tb.ok0 P) {tmps : Array Value} (hr : Rel c st tmps) : ∀ {rs : List ResultVar} {K : List V1 → Option R}, evRes tb rs st K = some r →
    ∃ vs ys, K vs = some r ∧ (rs.mapM (resOne tmps)).run P c.w = .ok ys c.w ∧ All2 (v1Rel c) vs ys
  | [], K, h => ⟨[], [], h, by simp [List.mapM_nil], trivial⟩
  | .tmp t :: rs, K, h => by
    unfold evRes at h
    have hg := hr.get t
    split at h
    · rename_i v hv
      rw [hv] at hg
      obtain ⟨vs, ys, h1, h2, h3⟩ := evRes_run htb hr h
      exact ⟨v :: vs, _ :: ys, h1, by simp [List.mapM_cons, resOne, h2], hg, h3⟩
    · cases h
  | .cell a t :: rs, K, h => by
    unfold evRes at h
    have hg := hr.get a
    obtain ⟨ad, had⟩ := evLoad_ptr h hg
    obtain ⟨v, x, _, _, h1, h2, h3, _⟩ := evLoad_some htb h hr.s hg
    have h1 := h1 c.w rfl
    cases v with
    | one v =>
      obtain ⟨vs, ys, k1, k2, k3⟩ := evRes_run htb hr h2
      refine ⟨v :: vs, x :: ys, k1, ?_, h3, k3⟩
      rw [had] at h1
      simp only [Instr.loadAt, Instr.sureAddr, Sem.run_bind, Sem.run_pure, Result.andThen_ok] at h1
      simp [List.mapM_cons, resOne, had, asAddr, h1, k2]
    | tup _ => cases h2
    | fn _ _ => cases h2
    | dead => cases h2

def mkRes (ys : List Value) : Value := match ys with | [y] => y | ys => .tuple ys.toArray

theorem results_run {fn : Func} {tmps : Array Value} {w : World} {ys : List Value} (h : (fn.results.toList.mapM (resOne tmps)).run P w = .ok ys w) : (results fn tmps).run P w = .ok (mkRes ys) w := by
  have : (fn.results.mapM (resOne tmps)).run P w = .ok ys.toArray w := by
    rw [Array.mapM_eq_mapM_toList]
    simp [h]
  have e : (results fn tmps) = (fn.results.mapM (resOne tmps) >>= fun vs => pure (if h : vs.size = 1 then vs[0] else .tuple vs)) := by
    unfold results
    congr 1
  rw [e, Sem.run_bind, this]
  simp only [Result.andThen_ok, Sem.run_pure]
  match ys with
  | [] => rfl
  | [y] => rfl
  | _ :: _ :: _ => simp [mkRes]

theorem resAV_rel {vs : List V1} {ys : List Value} (h : All2 (v1Rel c) vs ys) : avRel c (resAV vs) (mkRes ys) := by
  match vs, ys, h with
  | [], [], _ => exact ⟨#[], rfl, trivial⟩
  | [v], [y], h => exact h.1
  | v :: v' :: vs, y :: y' :: ys, h => exact ⟨_, rfl, by simpa using h⟩
  | [_], _ :: _ :: _, h => exact h.2.elim
  | _ :: _ :: _, [_], h => exact h.2.elim
  | [], _ :: _, h => exact h.elim
  | _ :: _, [], h => exact h.elim


def argTmps (fn : Func) (args : Array Value) : Array Value := args ++ Array.replicate (fn.ntmps - args.size) undef

/-- A function's call. -/
theorem evFn_calls (htb : tb.ok P) {f : FuncId} {fn : Func} (hla : ∀ code, fn.body = some code → LpAll tb code) (hf : P.funcs[f]? = some fn) {sig : List (Nat × LK)} {x : sdens sig} {K : List V1 → St → Option R} (h : evFn tb fn sig x K = some r)
    {args : Array Value} (hsz : args.size = sig.length) (hD : c.D = []) (hs : ∀ k, c.I k → c.T k) (hl : ∀ k, c.T k → k < c.w.heap.size) (hv : SigRel c (argTmps fn args) sig x) (hO : ∀ g, OBs c.w (argTmps fn args) sig g → ¬ c.T g) :
    Calls P f args c.w fun e w' => ∃ c' vs' ys st' tmps', e = .returned (mkRes ys) ∧ K vs' st' = some r ∧ Rel c' st' tmps' ∧ All2 (v1Rel c') vs' ys ∧ Step c c' ∧ c'.w = w' ∧ ∀ s, s ∈ tb.fixed → tmps'.getD s undef = (argTmps fn args).getD s undef := by
  unfold evFn at h
  split at h
  · rename_i code hb
    split at h
    · rename_i hn
      have hsize : (argTmps fn args).size = fn.ntmps := by unfold argTmps; simp; omega
      obtain ⟨c1, hr, hst, hw⟩ := putVals_some (blank_rel c hD hs hl (argTmps fn args) fn.ntmps hsize) hv (fun g hg => ⟨hO g hg, fun i hi => by rw [hD] at hi; cases hi⟩)
      rw [← hw]
      refine calls_of_wp hf hb (evCode_goes htb code (hla code hb) (a := { tmps := argTmps fn args, defers := [] }) hr h _ fun e st' c' a' h1 h2 h3 h4 => ?_)
      have fin : ∀ {K'}, evRes tb fn.results.toList st' K' = some r → (∀ vs', K' vs' = K vs' st') → bodyPost P fn (fun e w' => ∃ c' vs' ys st' tmps', e = .returned (mkRes ys) ∧ K vs' st' = some r ∧ Rel c' st' tmps' ∧ All2 (v1Rel c') vs' ys ∧ Step c c' ∧ c'.w = w' ∧ ∀ s, s ∈ tb.fixed → tmps'.getD s undef = (argTmps fn args).getD s undef) .normal a' c'.w := by
        intro K' hh hK
        obtain ⟨vs', ys, k1, k2, k3⟩ := evRes_run htb.ok0 h2 hh
        exact ⟨h4.1, mkRes ys, results_run k2, c', vs', ys, st', a'.tmps, rfl, by rw [← hK]; exact k1, h2, k3, hst.trans h3, rfl, h4.2⟩
      cases e with
      | normal => exact fin h1 fun _ => rfl
      | ret => exact fin h1 fun _ => rfl
      | exit id => cases h1
    · cases h
  · cases h

/-! ### Rows that are lent -/
theorem few_iff : ∀ {ids : List (Option Nat)}, fewIds ids = true ↔ ids.Pairwise fun a b => a ≠ b ∨ a = none
  | [] => by simp [fewIds]
  | o :: ids => by
    unfold fewIds
    rw [Bool.and_eq_true, few_iff (ids := ids), List.pairwise_cons]
    refine and_congr_left fun _ => ?_
    cases o with
    | none => simp
    | some id =>
      simp only [Bool.not_eq_true', List.contains_eq_mem, decide_eq_false_iff_not]
      constructor
      · intro h b hb
        exact .inl fun e => h (by rw [e]; exact hb)
      · intro h hm
        rcases h _ hm with h | h
        · exact h rfl
        · cases h
theorem few_split {a b : List (Option Nat)} (h : fewIds (a ++ b) = true) : fewIds a = true ∧ fewIds b = true ∧ ∀ o, o ∈ b → o ∉ a ∨ o = none := by
  rw [few_iff, List.pairwise_append] at h
  refine ⟨few_iff.mpr h.1, few_iff.mpr h.2.1, fun o ho => ?_⟩
  by_cases hm : o ∈ a
  · rcases h.2.2 o hm o ho with h9 | h9
    · exact absurd rfl h9
    · exact .inr h9
  · exact .inl hm
theorem few_join {a b : List (Option Nat)} (h1 : fewIds a = true) (h2 : fewIds b = true) (h : ∀ o, o ∈ b → o ∉ a ∨ o = none) : fewIds (a ++ b) = true := by
  rw [few_iff, List.pairwise_append]
  refine ⟨few_iff.mp h1, few_iff.mp h2, fun x hx y hy => ?_⟩
  by_cases e : x = y
  · subst e
    rcases h x hy with h9 | h9
    · exact absurd hx h9
    · exact .inr h9
  · exact .inl e
theorem few_disj {ids : List (Option Nat)} {n j : Nat} (h : fewIds ids = true) (h1 : some j ∈ ids.take n) (h2 : some j ∈ ids.drop n) : False := by
  rw [← List.take_append_drop n ids] at h
  rcases (few_split h).2.2 _ h2 with h9 | h9
  · exact h9 h1
  · cases h9
theorem few_drop {ids : List (Option Nat)} {n : Nat} (h : fewIds ids = true) : fewIds (ids.drop n) = true := by
  rw [← List.take_append_drop n ids] at h
  exact (few_split h).2.1

/-- The rows of an element that is lent. -/
def OArg (cf : Cx) : (t : Ty) → t.den → List Value → List (Option Nat) → Prop
  | .rs e t, xs, cs, ids => ∃ y o, cs = [y] ∧ ids.head? = some o ∧ y.oneCell' = true ∧ (match o with | some id => id ∈ cf.D → y = cf.ρ id ∧ ∃ B, OwnE (.rs e t) cf.w B xs [y] ∧ B.Nodup ∧ ∀ g, g ∈ B → cf.ow id g | none => y = .slice none 0 0 ∧ xs = [])
  | .pair a b, p, cs, ids => OArg cf a p.1 (cs.take a.sz) ids ∧ OArg cf b p.2 (cs.drop a.sz) (ids.drop (rsN a))
  | .int k, n, cs, _ => cs = [.int k n]
  | .bool, b, cs, _ => cs = [.bool b]
  | .str, s, cs, _ => cs = [.string s]
theorem OArg.move {c cf : Cx} (h : Later c cf) : ∀ {t : Ty} {x : t.den} {cs : List Value} {ids : List (Option Nat)}, OArg c t x cs ids → OArg cf t x cs ids
  | .rs e t, x, cs, ids, ⟨y, o, h1, h2, h3, h4⟩ => by
    refine ⟨y, o, h1, h2, h3, ?_⟩
    cases o with
    | none => exact h4
    | some id =>
      intro hi
      obtain ⟨k1, B, k2, k3, k4⟩ := h4 (h.D id hi)
      exact ⟨by rw [h.ρ id hi]; exact k1, B, by rw [h.w]; exact k2, k3, fun g hg => h.wo hi (k4 g hg)⟩
  | .pair a b, p, cs, ids, ⟨h1, h2⟩ => ⟨h1.move h, h2.move h⟩
  | .int _, _, _, _, h1 => h1
  | .bool, _, _, _, h1 => h1
  | .str, _, _, _, h1 => h1
theorem OArg.more {c : Cx} : ∀ {t : Ty} {x : t.den} {cs : List Value} {ids r : List (Option Nat)}, rsN t ≤ ids.length → OArg c t x cs ids → OArg c t x cs (ids ++ r)
  | .rs e t, x, cs, ids, r, hl, ⟨y, o, h1, h2, h3, h4⟩ => by
    refine ⟨y, o, h1, ?_, h3, h4⟩
    cases ids with
    | nil => cases h2
    | cons _ _ => exact h2
  | .pair a b, p, cs, ids, r, hl, ⟨h1, h2⟩ => by
    simp only [rsN] at hl
    refine ⟨h1.more (by omega), ?_⟩
    rw [List.drop_append_of_le_length (by omega)]
    exact h2.more (by rw [List.length_drop]; omega)
  | .int _, _, _, _, _, _, h1 => h1
  | .bool, _, _, _, _, _, h1 => h1
  | .str, _, _, _, _, _, h1 => h1
theorem mem_take_drop {α : Type} {l : List α} {m n : Nat} {x : α} (h : x ∈ l.take (m + n)) : x ∈ l.take m ∨ x ∈ (l.drop m).take n := by
  rw [List.take_add] at h
  exact List.mem_append.mp h
theorem mem_take_l {α : Type} {l : List α} {m n : Nat} {x : α} (h : x ∈ l.take m) : x ∈ l.take (m + n) := by
  rw [List.take_add]
  exact List.mem_append_left _ h
theorem mem_take_r {α : Type} {l : List α} {m n : Nat} {x : α} (h : x ∈ (l.drop m).take n) : x ∈ l.take (m + n) := by
  rw [List.take_add]
  exact List.mem_append_right _ h
theorem head_mem {ids : List (Option Nat)} {o : Option Nat} (h : ids.head? = some o) : o ∈ ids.take 1 := by
  cases ids with
  | nil => cases h
  | cons a r => injection h with h; subst h; simp
theorem OArg.own {cf : Cx} {store : List (Nat × Ent)} (hs : SRel cf store) : ∀ {t : Ty} {x : t.den} {cs : List Value} {ids : List (Option Nat)}, OArg cf t x cs ids → (∀ id, some id ∈ ids → id ∈ cf.D) → fewIds ids = true →
    ∃ B, OwnE t cf.w B x cs ∧ B.Nodup ∧ ∀ g, g ∈ B → ∃ id, some id ∈ ids.take (rsN t) ∧ cf.ow id g
  | .rs e t, x, cs, ids, ⟨y, o, h1, h2, h3, h4⟩, hD, hf => by
    have hm := head_mem h2
    cases o with
    | none =>
      obtain ⟨h5, h6⟩ := h4
      subst h5 h6 h1
      exact ⟨[], ⟨_, [], [], rfl, rfl, oRow_nil cf.w e t.sz, rfl, rfl, rfl⟩, List.nodup_nil, fun g hg => by cases hg⟩
    | some id =>
      obtain ⟨_, B, k2, k3, k4⟩ := h4 (hD id (List.mem_of_mem_take hm))
      subst h1
      exact ⟨B, k2, k3, fun g hg => ⟨id, hm, k4 g hg⟩⟩
  | .pair a b, p, cs, ids, ⟨h1, h2⟩, hD, hf => by
    obtain ⟨B0, k1, k2, k3⟩ := h1.own hs hD hf
    obtain ⟨B1, m1, m2, m3⟩ := h2.own hs (fun id hi => hD id (List.mem_of_mem_drop hi)) (few_drop hf)
    refine ⟨B0 ++ B1, ⟨B0, B1, _, _, rfl, (List.take_append_drop _ _).symm, k1, m1⟩, ?_, fun g hg => ?_⟩
    · rw [List.nodup_append]
      refine ⟨k2, m2, fun g hg g' hg' => ?_⟩
      rintro rfl
      obtain ⟨i, i1, i2⟩ := k3 g hg
      obtain ⟨j, j1, j2⟩ := m3 g hg'
      have j1 := List.mem_of_mem_take j1
      exact hs.apartX i j g (hD i (List.mem_of_mem_take i1)) (hD j (List.mem_of_mem_drop j1)) (fun e => few_disj hf i1 (by rw [e]; exact j1)) i2 j2
    · rcases List.mem_append.mp hg with hg | hg
      · obtain ⟨i, i1, i2⟩ := k3 g hg
        exact ⟨i, mem_take_l i1, i2⟩
      · obtain ⟨i, i1, i2⟩ := m3 g hg
        exact ⟨i, mem_take_r i1, i2⟩
  | .int _, _, _, _, h1, _, _ => ⟨[], ⟨rfl, h1⟩, List.nodup_nil, fun g hg => by cases hg⟩
  | .bool, _, _, _, h1, _, _ => ⟨[], ⟨rfl, h1⟩, List.nodup_nil, fun g hg => by cases hg⟩
  | .str, _, _, _, h1, _, _ => ⟨[], ⟨rfl, h1⟩, List.nodup_nil, fun g hg => by cases hg⟩

theorem peekO_some {tmps : Array Value} {c0 : Cx} : ∀ {t : Ty} {ls : List Leaf} {cs : List Value} {st : St} {c : Cx} {x : t.den} {new : List (Option Nat)}, peekO t ls st = some (x, new) → Rel c st tmps → Later c0 c → All2 (leafRel c0) ls cs →
    OArg c t x cs new ∧ new.length = rsN t ∧ (∀ id, some id ∈ new → id ∈ c.D) ∧ ∀ g, Ft t c.w cs g → ∃ id, some id ∈ new ∧ c.ow id g
  | .int k, ls, cs, st, c, x, new, h, hr, h0, ha => by
    simp only [peekO] at h
    split at h
    · split at h
      · rename_i hk
        subst hk
        cases h
        match cs, ha with
        | [y], ha => exact ⟨by rw [ha.1.1]; rfl, rfl, fun id hi => (by cases hi), fun g hg => hg.elim⟩
        | _ :: _ :: _, ha => exact ha.2.elim
      · cases h
    · cases h
  | .bool, ls, cs, st, c, x, new, h, hr, h0, ha => by
    simp only [peekO] at h
    split at h
    · cases h
      match cs, ha with
      | [y], ha => exact ⟨by rw [ha.1.1]; rfl, rfl, fun id hi => (by cases hi), fun g hg => hg.elim⟩
      | _ :: _ :: _, ha => exact ha.2.elim
    · cases h
  | .str, ls, cs, st, c, x, new, h, hr, h0, ha => by
    simp only [peekO] at h
    split at h
    · cases h
      match cs, ha with
      | [y], ha => exact ⟨by rw [ha.1.1]; rfl, rfl, fun id hi => (by cases hi), fun g hg => hg.elim⟩
      | _ :: _ :: _, ha => exact ha.2.elim
    · cases h
  | .rs e t, ls, cs, st, c, x, new, h, hr, h0, ha => by
    have main : ∀ {id : Nat} {y : Value} {E : Ent} {xs : List t.den}, lookup st.store id = some E → (Ev.flat t = true ∧ E = .row e t xs) ∨ E = .deep e t xs → leafRel c0 (.own id) y →
        OArg c (.rs e t) xs [y] [some id] ∧ [some id].length = rsN (.rs e t) ∧ (∀ i, some i ∈ [some id] → i ∈ c.D) ∧ ∀ g, Ft (.rs e t) c.w [y] g → ∃ i, some i ∈ [some id] ∧ c.ow i g := by
      intro id y E xs hl hE hy
      have hidD : id ∈ c.D := lookup_D hr.s hl
      have hy' : y = c.ρ id := by rw [h0.ρ id hidD]; exact hy.2.1
      obtain ⟨B, k1, k2, k3⟩ := mk_own (hr.entOf hl) hE
      rw [← hy'] at k1
      refine ⟨⟨y, some id, rfl, rfl, hy.2.2, fun _ => ⟨hy', B, k1, k2, k3⟩⟩, rfl, fun i hi => ?_, fun g hg => ⟨id, by simp, k3 g ((k1.ft g).mp hg)⟩⟩
      simp only [List.mem_singleton, Option.some.injEq] at hi
      rw [hi]; exact hidD
    simp only [peekO] at h
    split at h
    · rename_i id
      match cs, ha with
      | [y], ha =>
        split at h
        · rename_i e' t' xs hl
          split at h
          · rename_i hc
            obtain ⟨hf, rfl⟩ := hc
            obtain ⟨rfl, h⟩ := cast_some h
            cases h
            exact main hl (.inl ⟨hf, rfl⟩) ha.1
          · cases h
        · rename_i e' t' xs hl
          split at h
          · rename_i hc
            subst hc
            obtain ⟨rfl, h⟩ := cast_some h
            cases h
            exact main hl (.inr rfl) ha.1
          · cases h
        · cases h
      | _ :: _ :: _, ha => exact ha.2.elim
    · cases h
      match cs, ha with
      | [y], ha =>
        have hy : y = .slice none 0 0 := ha.1.1
        refine ⟨⟨y, none, rfl, rfl, by rw [hy]; rfl, hy, rfl⟩, rfl, fun id hi => by simp at hi, fun g hg => ?_⟩
        obtain ⟨v, h1, h2⟩ := hg
        injection h1 with h1 _
        rw [← h1, hy] at h2
        rcases h2 with h2 | ⟨_, _, _, _, h2, _⟩ <;> cases h2
      | _ :: _ :: _, ha => exact ha.2.elim
    · cases h
  | .pair a b, ls, cs, st, c, x, new, h, hr, h0, ha => by
    simp only [peekO] at h
    split at h
    · rename_i x1 i1 x2 i2 h1 h2
      cases h
      obtain ⟨k1, k2, k3, k4⟩ := peekO_some h1 hr h0 (ha.take a.sz)
      obtain ⟨m1, m2, m3, m4⟩ := peekO_some h2 hr h0 (ha.drop a.sz)
      refine ⟨⟨k1.more (by omega), by rw [← k2, List.drop_left]; exact m1⟩, by simp [rsN, k2, m2], fun id hi => ?_, fun g hg => ?_⟩
      · rcases List.mem_append.mp hi with hi | hi
        · exact k3 id hi
        · exact m3 id hi
      · rcases hg with hg | hg
        · obtain ⟨id, q1, q2⟩ := k4 g hg
          exact ⟨id, List.mem_append_left _ q1, q2⟩
        · obtain ⟨id, q1, q2⟩ := m4 g hg
          exact ⟨id, List.mem_append_right _ q1, q2⟩
    · cases h

theorem takeO_ids {tmps : Array Value} {c0 : Cx} : ∀ {t : Ty} {ls : List Leaf} {cs : List Value} {st : St} {c : Cx} {K : t.den → St → Option R}, takeO t ls st K = some r → Rel c st tmps → Later c0 c → All2 (leafRel c0) ls cs →
    ∀ g, Ft t c.w cs g → ∃ i, i ∈ c.D ∧ c.ow i g ∧ i ∈ ls.flatMap idsL
  | .int k, ls, cs, st, c, K, h, hr, h0, ha, g, hg => hg.elim
  | .bool, ls, cs, st, c, K, h, hr, h0, ha, g, hg => hg.elim
  | .str, ls, cs, st, c, K, h, hr, h0, ha, g, hg => hg.elim
  | .rs e t, ls, cs, st, c, K, h, hr, h0, ha, g, hg => by
    have main : ∀ {id : Nat} {y : Value} {E : Ent} {xs : List t.den}, lookup st.store id = some E → (Ev.flat t = true ∧ E = .row e t xs) ∨ E = .deep e t xs → leafRel c0 (.own id) y → Ft (.rs e t) c.w [y] g → ∃ i, i ∈ c.D ∧ c.ow i g ∧ i ∈ [Leaf.own id].flatMap idsL := by
      intro id y E xs hl hE hy hg
      have hidD : id ∈ c.D := lookup_D hr.s hl
      have hy' : y = c.ρ id := by rw [h0.ρ id hidD]; exact hy.2.1
      obtain ⟨B, k1, k2, k3⟩ := mk_own (hr.entOf hl) hE
      rw [← hy'] at k1
      exact ⟨id, hidD, k3 g ((k1.ft g).mp hg), by simp [idsL]⟩
    simp only [takeO] at h
    split at h
    · rename_i id
      match cs, ha, hg with
      | [y], ha, hg =>
        split at h
        · rename_i e' t' xs hl
          split at h
          · rename_i hc
            obtain ⟨hf, rfl⟩ := hc
            obtain ⟨rfl, h⟩ := cast_some h
            exact main hl (.inl ⟨hf, rfl⟩) ha.1 hg
          · cases h
        · rename_i e' t' xs hl
          split at h
          · rename_i hc
            subst hc
            obtain ⟨rfl, h⟩ := cast_some h
            exact main hl (.inr rfl) ha.1 hg
          · cases h
        · cases h
      | _ :: _ :: _, ha, hg => exact ha.2.elim
    · match cs, ha, hg with
      | [y], ha, hg =>
        have hy : y = .slice none 0 0 := ha.1.1
        obtain ⟨v, h1, h2⟩ := hg
        injection h1 with h1 _
        rw [← h1, hy] at h2
        rcases h2 with h2 | ⟨_, _, _, _, h2, _⟩ <;> cases h2
      | _ :: _ :: _, ha, hg => exact ha.2.elim
    · cases h
  | .pair a b, ls, cs, st, c, K, h, hr, h0, ha, g, hg => by
    simp only [takeO] at h
    obtain ⟨x, st1, D1, B0, h1, h2, h3, h4, h5, h6⟩ := takeO_some (c0 := c0) h hr h0 (ha.take a.sz)
    rcases hg with hg | hg
    · obtain ⟨i, q1, q2, q3⟩ := takeO_ids (c0 := c0) h hr h0 (ha.take a.sz) g hg
      obtain ⟨l, l1, l2⟩ := List.mem_flatMap.mp q3
      exact ⟨i, q1, q2, List.mem_flatMap.mpr ⟨l, List.mem_of_mem_take l1, l2⟩⟩
    · obtain ⟨i, q1, q2, q3⟩ := takeO_ids (c0 := c0) h1 h2 (h0.trans (later_D hr h3) h3) (ha.drop a.sz) g hg
      obtain ⟨l, l1, l2⟩ := List.mem_flatMap.mp q3
      exact ⟨i, h3 i q1, q2, List.mem_flatMap.mpr ⟨l, List.mem_of_mem_drop l1, l2⟩⟩

/-! ### Arguments -/
def natBlk (k : LK) (y : Value) (w : World) (g : Nat) : Prop :=
  match k with
  | .b t ks => ∃ gg conc, y = .pointer (some ⟨gg, 0, none⟩) ∧ w.heap[gg]? = some (.cells conc t (0, 0)) ∧ OBc w ks conc.toList g
  | _ => False
/-- Arguments as they stand when all are read; ids: what is lent. -/
def Arg (hm : Bool) (cf : Cx) (tA : Array Value) : (sig : List (Nat × LK)) → sdens sig → List (Option Nat) → Prop
  | [], _, ids => ids = []
  | (s, .c agg (.v want t)) :: sig, x, ids => shape agg (tA.getD s undef) ∧ RdE (rdS (Md.ofA hm want) cf) t cf.w x.1 (tA.getD s undef).cells.toList ∧ Arg hm cf tA sig x.2 ids
  | (s, .c agg (.r e t)) :: sig, x, ids => ∃ o ids', ids = o :: ids' ∧ ((tA.getD s undef).oneCell' = true ∧ EnRel cf (.c agg (.r e t)) x.1 (tA.getD s undef)) ∧ (match o with | some id => (id ∈ cf.D → tA.getD s undef = cf.ρ id) ∧ some id ∉ ids' | none => tA.getD s undef = .slice none 0 0) ∧ Arg hm cf tA sig x.2 ids'
  | (s, .c agg (.f k)) :: sig, x, ids => (agg = false ∧ (tA.getD s undef).oneCell' = true) ∧ k.rel (rdS (Md.ofA hm k.want) cf) cf.w x.1 (tA.getD s undef) ∧ Arg hm cf tA sig x.2 ids
  | (s, .c agg (.g f)) :: sig, x, ids => agg = false ∧ tA.getD s undef = .func (.func f) #[] #[] ∧ Arg hm cf tA sig x.2 ids
  | (s, .c agg (.o t)) :: sig, x, ids => (rsN t ≤ ids.length ∧ fewIds ids = true) ∧ (shape agg (tA.getD s undef) ∧ (tA.getD s undef).cells.toList.length = t.sz) ∧ OArg cf t x.1 (tA.getD s undef).cells.toList ids ∧ Arg hm cf tA sig x.2 (ids.drop (rsN t))
  | (s, .t agg t) :: sig, x, ids => (shape agg (tA.getD s undef) ∧ (tA.getD s undef).cells.toList.length = t.sz) ∧ (∃ B, OwnE t cf.w B x.1 (tA.getD s undef).cells.toList ∧ B.Nodup ∧ ∀ g, g ∈ B → ¬ cf.T g ∧ (∀ j, j ∈ cf.D → ¬ cf.ow j g) ∧ ¬ OBs cf.w tA sig g) ∧ Arg hm cf tA sig x.2 ids
  | (s, .b t ks) :: sig, x, ids => ∃ id ids', ids = some id :: ids' ∧ (id ∈ cf.D → EnRel cf (.b t ks) x.1 (tA.getD s undef) ∧ tA.getD s undef = cf.ρ id) ∧ some id ∉ ids' ∧
      (∀ g, natBlk (.b t ks) (tA.getD s undef) cf.w g → ¬ cf.T g ∧ (∀ j, j ∈ cf.D → ¬ cf.ow j g) ∧ ¬ OBs cf.w tA sig g) ∧ Arg hm cf tA sig x.2 ids'

theorem getCKs_ids {tmps : Array Value} {c0 : Cx} : ∀ {ks : List CK} {ls : List Leaf} {cs : List Value} {st : St} {c : Cx} {K : cdens ks → St → Option R}, getCKs ks ls st K = some r → Rel c st tmps → Later c0 c → All2 (leafRel c0) ls cs →
    ∀ g, OBc c.w ks cs g → ∃ i, i ∈ c.D ∧ c.ow i g ∧ i ∈ ckIds ks ls
  | [], ls, cs, st, c, K, h, hr, h0, ha, g, hg => hg.elim
  | .v want t :: ks, ls, cs, st, c, K, h, hr, h0, ha, g, hg => by
    simp only [getCKs] at h
    obtain ⟨x, st1, c1, h1, h2, h3, h4, h5⟩ := readTy_some (c0 := c0) h hr h0 (ha.take t.sz)
    obtain ⟨i, k1, k2, k4⟩ := getCKs_ids (c0 := c0) h1 h2 (h0.trans h3 h4) (ha.drop t.sz) g (by rw [h3.w]; exact hg)
    exact ⟨i, h4 i k1, h3.ow k1 k2, k4⟩
  | .f k :: ks, ls, cs, st, c, K, h, hr, h0, ha, g, hg => by
    simp only [getCKs] at h
    split at h
    · match cs, ha, hg with
      | y :: cs, ha, hg =>
        obtain ⟨x, lt, h, _⟩ := FK.get_some h ha.1
        obtain ⟨i, k1, k2, k4⟩ := getCKs_ids (c0 := c0) h hr h0 ha.2 g hg
        exact ⟨i, k1, k2, by simpa [ckIds] using k4⟩
    · cases h
  | .g f :: ks, ls, cs, st, c, K, h, hr, h0, ha, g, hg => by
    simp only [getCKs] at h
    split at h
    · split at h
      · match cs, ha, hg with
        | y :: cs, ha, hg =>
          obtain ⟨i, k1, k2, k4⟩ := getCKs_ids (c0 := c0) h hr h0 ha.2 g hg
          exact ⟨i, k1, k2, by simpa [ckIds] using k4⟩
      · cases h
    · cases h
  | .o t :: ks, ls, cs, st, c, K, h, hr, h0, ha, g, hg => by
    simp only [getCKs] at h
    obtain ⟨x, st1, D1, B0, h1, h2, h3, h4, h5, h6⟩ := takeO_some (c0 := c0) h hr h0 (ha.take t.sz)
    rcases hg with hg | hg
    · obtain ⟨i, q1, q2, q3⟩ := takeO_ids (c0 := c0) h hr h0 (ha.take t.sz) g hg
      exact ⟨i, q1, q2, List.mem_append_left _ q3⟩
    · obtain ⟨i, k1, k2, k4⟩ := getCKs_ids (c0 := c0) h1 h2 (h0.trans (later_D hr h3) h3) (ha.drop t.sz) g hg
      exact ⟨i, h3 i k1, k2, List.mem_append_right _ k4⟩
  | .r e t :: ks, ls, cs, st, c, K, h, hr, h0, ha, g, hg => by
    simp only [getCKs] at h
    split at h
    · rename_i id rest
      match cs, ha, hg with
      | y :: cs, ha, hg =>
        split at h
        · rename_i e' t' xs hl
          split at h
          · rename_i hee
            subst hee
            obtain ⟨hty, h⟩ := cast_some h
            have hty2 := hty.symm
            subst hty2
            obtain ⟨hr1, hL⟩ := hr.take id
            have hidD : id ∈ c.D := lookup_D hr.s hl
            have hy : y = c.ρ id := by rw [h0.ρ id hidD]; exact ha.1.2.1
            rcases hg with hg | hg
            · rw [hy] at hg
              exact ⟨id, hidD, .inl hg, by simp [ckIds, idsL]⟩
            · obtain ⟨i, k1, k2, k4⟩ := getCKs_ids (c0 := c0) h hr1 (h0.trans hL hL.D) ha.2 g hg
              exact ⟨i, (List.mem_filter.mp k1).1, k2, by simp [ckIds, k4]⟩
          · cases h
        · cases h
    · rename_i rest
      match cs, ha, hg with
      | y :: cs, ha, hg =>
        have hy : y = .slice none 0 0 := ha.1.1
        rcases hg with hg | hg
        · rw [hy] at hg; cases hg
        · obtain ⟨i, k1, k2, k4⟩ := getCKs_ids (c0 := c0) h hr h0 ha.2 g hg
          exact ⟨i, k1, k2, by simp [ckIds, k4]⟩
    · cases h

theorem ofA_step {hm want : Bool} {c c' : Cx} (h : Later c c') : ∀ k, rdS (Md.ofA hm want) c k → rdS (Md.ofA hm want) c' k := rdS_step h

theorem few_cons {id : Nat} {ids : List (Option Nat)} (h : some id ∉ ids) (h1 : fewIds ids = true) : fewIds (some id :: ids) = true := by
  rw [few_iff, List.pairwise_cons]
  exact ⟨fun b hb => .inl fun e => h (by rw [e]; exact hb), few_iff.mp h1⟩
theorem few_none {ids : List (Option Nat)} (h1 : fewIds ids = true) : fewIds (none :: ids) = true := by
  rw [few_iff, List.pairwise_cons]
  exact ⟨fun b hb => .inr rfl, few_iff.mp h1⟩
theorem peekO_len : ∀ {t : Ty} {ls : List Leaf} {st : St} {x : t.den} {new : List (Option Nat)}, peekO t ls st = some (x, new) → ls.length = t.sz
  | .int k, ls, st, x, new, h => by
    simp only [peekO] at h
    split at h
    · rfl
    · cases h
  | .bool, ls, st, x, new, h => by
    simp only [peekO] at h
    split at h
    · rfl
    · cases h
  | .str, ls, st, x, new, h => by
    simp only [peekO] at h
    split at h
    · rfl
    · cases h
  | .rs e t, ls, st, x, new, h => by
    simp only [peekO] at h
    split at h
    · rfl
    · rfl
    · cases h
  | .pair a b, ls, st, x, new, h => by
    simp only [peekO] at h
    split at h
    · rename_i x1 i1 x2 i2 h1 h2
      have k1 := peekO_len h1
      have k2 := peekO_len h2
      rw [List.length_take] at k1
      rw [List.length_drop] at k2
      show ls.length = a.sz + b.sz
      omega
    · cases h

theorem OBc_f {w : World} {k : FK} {agg : Bool} {y : Value} {g : Nat} (h : OBe w (.c agg (.f k)) y g) : False := by
  have h : OBc w [.f k] y.cells.toList g := h
  generalize y.cells.toList = l at h
  cases l with
  | nil => exact h
  | cons a b => exact h
theorem lendP_some {hm : Bool} {tmps : Array Value} {c0 c : Cx} {st : St} : ∀ {k : FK} {l : Leaf} {K : k.den → St → Option R} {y : Value}, lendP hm k l st K = some r → Rel c st tmps → Later c0 c → leafRel c0 l y →
    ∃ x st1 c1, K x st1 = some r ∧ Rel c1 st1 tmps ∧ Later c c1 ∧ (∀ i, i ∈ c1.D → i ∈ c.D) ∧ k.rel (rdS (Md.ofA hm k.want) c1) c1.w x y := by
  intro k l K y h hr h0 hv
  unfold lendP at h
  split at h
  · rename_i t id K2
    split at h
    · split at h
      · rename_i bt cells hl
        have hidD : id ∈ c.D := lookup_D hr.s hl
        obtain ⟨_, gg, hρ0, hyg⟩ := hv
        have hρ : c.ρ id = .pointer (some ⟨gg, 0, none⟩) := by rw [h0.ρ id hidD]; exact hρ0
        have hent := hr.entOf hl
        have hlt := fun g hb => entRel.lt hent (g := g) hb
        obtain ⟨gg', conc, m1, m2, m3, m4⟩ := hent
        rw [hρ] at m1
        injection m1 with m1
        injection m1 with m1
        injection m1 with m1 _ _
        subst m1
        obtain ⟨x, st1, c1, h1, h2, h3, h4, h5⟩ := readTy_some (c0 := c) h hr (Later.refl hr.s) m4
        refine ⟨x, st1, c1, h1, h2, h3, h4, _, hyg, ?_, conc.toList, h5, fun i u hu => ?_⟩
        · show gg < c1.w.heap.size
          rw [h3.w]
          exact hlt gg (by rw [hρ]; rfl)
        · rw [h3.w, add_at]
          simp only [World.cell?, m3]
          rw [Array.getElem?_toList] at hu
          simpa using hu
      · cases h
    · cases h
  · obtain ⟨x, lt, h, hv, hw⟩ := FK.get_some h hv
    refine ⟨x, st, c, h, hr, Later.refl hr.s, fun i hi => hi, FK.rel_step (by rw [h0.w]; exact agree.refl _ _) (fun g hg => ?_) hv⟩
    have hg := S_mono h0.sub hw g hg
    have hg' : rdS (Md.ofA hm k.want) c0 g := by
      unfold Md.ofA
      cases hkw : k.want with
      | true => rw [hkw] at hg; exact hg
      | false =>
        rw [hkw] at hg
        cases hm with
        | true => exact hg
        | false => exact h0.lt g hg
    exact ofA_step h0 g hg'
theorem readArgs_some {lim : Option (List Nat)} {hm : Bool} {tA : Array Value} {tmps : Array Value} {c0 : Cx} : ∀ {ps : List LK} {i : Nat} {vs : List V1} {ys : List Value} {ids : List (Option Nat)} {st : St} {c : Cx} {K : sdens (num i ps) → List (Option Nat) → St → Option R},
    readArgs lim hm i ps vs ids st K = some r → Rel c st tmps → Later c0 c → All2 (v1Rel c0) vs ys → (∀ j y, ys[j]? = some y → tA.getD (i + j) undef = y) →
    ∃ xs ids' st' cf, K xs (ids ++ ids') st' = some r ∧ Rel cf st' tmps ∧ Later c cf ∧ Arg hm cf tA (num i ps) xs ids' ∧ (∀ g, OBs c.w tA (num i ps) g → ∃ j, j ∈ c.D ∧ c.ow j g ∧ (∀ M, lim = some M → j ∈ M)) ∧ ((∀ o, o ∈ ids' → o ∉ ids ∨ o = none) ∧ fewIds ids' = true) ∧ ys.length = ps.length
  | [], i, vs, ys, ids, st, c, K, h, hr, h0, ha, ht => by
    simp only [readArgs] at h
    split at h
    · cases ys with
      | nil => exact ⟨(), [], st, c, by rw [List.append_nil]; exact h, hr, Later.refl hr.s, rfl, fun g hg => hg.elim, ⟨fun o ho => (by cases ho), rfl⟩, rfl⟩
      | cons _ _ => exact ha.elim
    · cases h
  | .c agg (.v want t) :: ps, i, vs, ys, ids, st, c, K, h, hr, h0, ha, ht => by
    simp only [readArgs] at h
    split at h
    · rename_i v vs'
      cases ys with
      | nil => exact ha.elim
      | cons y ys =>
        split at h
        · rename_i ls hls
          obtain ⟨hl, hsh⟩ := lvOf_rel hls ha.1
          have hy : tA.getD i undef = y := ht 0 y rfl
          obtain ⟨x, st1, c1, h1, h2, h3, h4, h5⟩ := readTy_some (c0 := c0) h hr h0 hl
          obtain ⟨xs, ids', st2, cf, k1, k2, k3, k4, k5, k6, k7⟩ := readArgs_some (c0 := c0) h1 h2 (h0.trans h3 h4) ha.2 (fun j y hj => by rw [show i + 1 + j = i + (j + 1) by omega]; exact ht (j + 1) y (by simpa using hj))
          refine ⟨(x, xs), ids', st2, cf, k1, k2, h3.trans k3 k3.D, ⟨by rw [hy]; exact hsh, by rw [hy]; exact h5.step (by rw [k3.w]; exact agree.refl _ _) (ofA_step k3), k4⟩, fun g hg => ?_, k6, by simp [k7]⟩
          rcases hg with hg | hg
          · exact hg.elim
          · rw [← h3.w] at hg
            obtain ⟨j, g1, g2, g3⟩ := k5 g hg
            exact ⟨j, h4 j g1, h3.ow g1 g2, g3⟩
        · cases h
    · cases h
  | .c agg (.f k) :: ps, i, vs, ys, ids, st, c, K, h, hr, h0, ha, ht => by
    simp only [readArgs] at h
    split at h
    · rename_i l vs'
      cases ys with
      | nil => exact ha.elim
      | cons y ys =>
        split at h
        · rename_i hagg
          obtain ⟨x, st1, c1, h1, h2, h3, h4, hv⟩ := lendP_some h hr h0 (show leafRel c0 l y from ha.1)
          have hy : tA.getD i undef = y := ht 0 y rfl
          obtain ⟨xs, ids', st2, cf, k1, k2, k3, k4, k5, k6, k7⟩ := readArgs_some (c0 := c0) h1 h2 (h0.trans h3 h4) ha.2 (fun j y hj => by rw [show i + 1 + j = i + (j + 1) by omega]; exact ht (j + 1) y (by simpa using hj))
          refine ⟨(x, xs), ids', st2, cf, k1, k2, h3.trans k3 k3.D, ⟨⟨hagg, by rw [hy]; exact FK.rel_one hv⟩, by
            rw [hy]
            exact FK.rel_step (by rw [k3.w]; exact agree.refl _ _) (ofA_step k3) hv, k4⟩, fun g hg => ?_, k6, by simp [k7]⟩
          rcases hg with hg | hg
          · exact (OBc_f hg).elim
          · rw [← h3.w] at hg
            obtain ⟨j, g1, g2, g3⟩ := k5 g hg
            exact ⟨j, h4 j g1, h3.ow g1 g2, g3⟩
        · cases h
    · cases h
  | .c agg (.g f) :: ps, i, vs, ys, ids, st, c, K, h, hr, h0, ha, ht => by
    simp only [readArgs] at h
    split at h
    · rename_i f' vs'
      cases ys with
      | nil => exact ha.elim
      | cons y ys =>
        split at h
        · rename_i hc
          obtain ⟨hagg, rfl⟩ := hc
          have hy : tA.getD i undef = y := ht 0 y rfl
          obtain ⟨xs, ids', st2, cf, k1, k2, k3, k4, k5, k6, k7⟩ := readArgs_some (c0 := c0) h hr h0 ha.2 (fun j y hj => by rw [show i + 1 + j = i + (j + 1) by omega]; exact ht (j + 1) y (by simpa using hj))
          have hv : y = .func (.func f') #[] #[] := ha.1
          refine ⟨((), xs), ids', st2, cf, k1, k2, k3, ⟨hagg, by rw [hy]; exact hv, k4⟩, fun g hg => ?_, k6, by simp [k7]⟩
          rcases hg with hg | hg
          · rw [hy, hv] at hg
            exact (show False from hg).elim
          · exact k5 g hg
        · cases h
    · cases h
  | .c agg (.o t) :: ps, i, vs, ys, ids, st, c, K, h, hr, h0, ha, ht => by
    simp only [readArgs] at h
    split at h
    · rename_i v vs'
      cases ys with
      | nil => exact ha.elim
      | cons y ys =>
        split at h
        · rename_i ls hls
          split at h
          · rename_i x new hpk
            split at h
            · rename_i hcond
              obtain ⟨hfew, hlim⟩ := hcond
              obtain ⟨hl, hsh⟩ := lvOf_rel hls ha.1
              have hy : tA.getD i undef = y := ht 0 y rfl
              obtain ⟨p1, p2, p3, p4⟩ := peekO_some hpk hr h0 hl
              obtain ⟨xs, ids', st2, cf, k1, k2, k3, k4, k5, ⟨k6, k60⟩, k7⟩ := readArgs_some (c0 := c0) h hr h0 ha.2 (fun j y hj => by rw [show i + 1 + j = i + (j + 1) by omega]; exact ht (j + 1) y (by simpa using hj))
              have hf2 := few_split hfew
              have hk6 : ∀ o, o ∈ ids' → o ∉ new ∨ o = none := fun o ho => (k6 o ho).imp (fun h9 h8 => h9 (List.mem_append_right _ h8)) fun h => h
              have hlen : y.cells.toList.length = t.sz := by rw [← hl.length]; exact peekO_len hpk
              refine ⟨(x, xs), new ++ ids', st2, cf, by rw [List.append_assoc] at k1; exact k1, k2, k3, ⟨⟨by simp [p2], few_join hf2.2.1 k60 hk6⟩, ⟨by rw [hy]; exact hsh, by rw [hy]; exact hlen⟩, by rw [hy]; exact (p1.move k3).more (by omega), by rw [← p2, List.drop_left]; exact k4⟩, fun g hg => ?_, ⟨fun o ho => ?_, few_join hf2.2.1 k60 hk6⟩, by simp [k7]⟩
              · rcases hg with hg | hg
                · rw [hy] at hg
                  have hg : OBc c.w [.o t] y.cells.toList g := hg
                  rcases hg with hg | hg
                  · rw [List.take_of_length_le (by omega)] at hg
                    obtain ⟨id, q1, q2⟩ := p4 g hg
                    refine ⟨id, p3 id q1, q2, fun M hM => ?_⟩
                    have := List.all_eq_true.mp hlim _ q1
                    rw [hM] at this
                    simpa [inLim] using this
                  · exact hg.elim
                · exact k5 g hg
              · rcases List.mem_append.mp ho with ho | ho
                · exact hf2.2.2 o ho
                · exact (k6 o ho).imp (fun h9 h8 => h9 (List.mem_append_left _ h8)) fun h => h
            · cases h
          · cases h
        · cases h
    · cases h
  | .c agg (.r e t) :: ps, i, vs, ys, ids, st, c, K, h, hr, h0, ha, ht => by
    simp only [readArgs] at h
    split at h
    · rename_i id vs'
      cases ys with
      | nil => exact ha.elim
      | cons y ys =>
        split at h
        · rename_i hcond
          obtain ⟨⟨hagg, hnc⟩, hlim⟩ := hcond
          split at h
          · rename_i e' t' xs hl
            split at h
            · rename_i hee
              subst hee
              obtain ⟨hty, h⟩ := cast_some h
              have hty2 := hty.symm
              subst hty2
              have hidD : id ∈ c.D := lookup_D hr.s hl
              have hy0 : tA.getD i undef = y := ht 0 y rfl
              have hy : y = c.ρ id := by rw [h0.ρ id hidD]; exact ha.1.2.1
              obtain ⟨inner, m1, m2, m3⟩ := hr.entOf hl
              obtain ⟨xs', ids', st2, cf, k1, k2, k3, k4, k5, ⟨k6, k60⟩, k7⟩ := readArgs_some (c0 := c0) h hr h0 ha.2 (fun j y hj => by rw [show i + 1 + j = i + (j + 1) by omega]; exact ht (j + 1) y (by simpa using hj))
              have hOB : ∀ g, OBe c.w (.c agg (.r e t)) (tA.getD i undef) g → blk (c.ρ id) = some g := by
                intro g hg
                rw [hy0] at hg
                have : OBc c.w [.r e t] y.cells.toList g := hg
                rw [one_cells ha.1.2.2] at this
                rcases this with this | this
                · rw [← hy]; exact this
                · exact this.elim
              refine ⟨(xs, xs'), some id :: ids', st2, cf, by rw [List.append_assoc] at k1; exact k1, k2, k3, ⟨some id, ids', rfl, ⟨by rw [hy0]; exact ha.1.2.2, by rw [hy0, hagg]; exact ha.1.2.2, ?_⟩, ⟨fun hD => by rw [hy0, hy, k3.ρ id hD], fun hm' => ?_⟩, k4⟩, fun g hg => ?_, ?_, by simp [k7]⟩
              · rw [hy0]
                show CKsRel cf [.r e t] _ _
                rw [one_cells ha.1.2.2]
                exact ⟨⟨inner, by rw [k3.w, hy]; exact m1, fun j z hz => (row_cells m3 (fun _ h => h) j z hz).step (by rw [k3.w]; exact agree.refl _ _) k3.step.I⟩, ha.1.2.2, fun g _ hF => hF.elim, trivial⟩
              · rcases k6 _ hm' with h9 | h9
                · exact h9 (List.mem_append_right _ (List.mem_singleton.mpr rfl))
                · cases h9
              · rcases hg with hg | hg
                · refine ⟨id, hidD, .inl (hOB g hg), fun M hM => ?_⟩
                  rw [hM] at hlim
                  simpa [inLim] using hlim
                · exact k5 g hg
              · refine ⟨fun o ho => ?_, few_cons (fun hm' => ?_) k60⟩
                rotate_left
                · rcases k6 _ hm' with h9 | h9
                  · exact h9 (List.mem_append_right _ (List.mem_singleton.mpr rfl))
                  · cases h9
                rcases List.mem_cons.mp ho with rfl | ho
                · left
                  intro h9
                  rw [List.contains_eq_mem] at hnc
                  simp [h9] at hnc
                · rcases k6 o ho with h9 | h9
                  · exact .inl fun h8 => h9 (List.mem_append_left _ h8)
                  · exact .inr h9
            · cases h
          · cases h
        · cases h
    · rename_i vs'
      cases ys with
      | nil => exact ha.elim
      | cons y ys =>
        split at h
        · rename_i hagg
          have hy0 : tA.getD i undef = y := ht 0 y rfl
          have hy : y = .slice none 0 0 := ha.1.1
          obtain ⟨xs', ids', st2, cf, k1, k2, k3, k4, k5, ⟨k6, k60⟩, k7⟩ := readArgs_some (c0 := c0) h hr h0 ha.2 (fun j y hj => by rw [show i + 1 + j = i + (j + 1) by omega]; exact ht (j + 1) y (by simpa using hj))
          refine ⟨([], xs'), none :: ids', st2, cf, by rw [List.append_assoc] at k1; exact k1, k2, k3, ⟨none, ids', rfl, ⟨by rw [hy0, hy]; rfl, by rw [hy0, hagg, hy]; rfl, ?_⟩, by rw [hy0]; exact hy, k4⟩, fun g hg => ?_, ⟨fun o ho => ?_, few_none k60⟩, by simp [k7]⟩
          · rw [hy0, hy]
            exact ⟨⟨[], oRow_nil cf.w e t.sz, fun j z hj => by simp at hj⟩, rfl, fun g _ hF => hF.elim, trivial⟩
          · rcases hg with hg | hg
            · rw [hy0, hy] at hg
              have hg : OBc c.w [.r e t] [.slice none 0 0] g := hg
              rcases hg with hg | hg
              · cases hg
              · exact hg.elim
            · exact k5 g hg
          · rcases List.mem_cons.mp ho with rfl | ho
            · exact .inr rfl
            · rcases k6 o ho with h9 | h9
              · exact .inl fun h8 => h9 (List.mem_append_left _ h8)
              · exact .inr h9
        · cases h
    · cases h
  | .t agg t :: ps, i, vs, ys, ids, st, c, K, h, hr, h0, ha, ht => by
    simp only [readArgs] at h
    split at h
    · rename_i v vs'
      cases ys with
      | nil => exact ha.elim
      | cons y ys =>
        split at h
        · rename_i ls hls
          split at h
          · rename_i hlim
            obtain ⟨hl, hsh⟩ := lvOf_rel hls ha.1
            have hy : tA.getD i undef = y := ht 0 y rfl
            have htk := h
            obtain ⟨x, st1, D', B, h1, h2, h3, h4, h5, h6⟩ := takeO_some (c0 := c0) h hr h0 hl
            have hL := later_D hr h3
            obtain ⟨xs, ids', st2, cf, k1, k2, k3, k4, k5, k6, k7⟩ := readArgs_some (c0 := c0) h1 h2 (h0.trans hL h3) ha.2 (fun j y hj => by rw [show i + 1 + j = i + (j + 1) by omega]; exact ht (j + 1) y (by simpa using hj))
            have hap : ∀ g, g ∈ B → ∀ j, j ∈ D' → ¬ c.ow j g := fun g hg j hj hh => by
              obtain ⟨i', i1, i2, i3⟩ := h6 g hg
              exact hr.s.apartX i' j g i1 (h3 j hj) (fun e => i2 (by rw [e]; exact hj)) i3 hh
            refine ⟨(x, xs), ids', st2, cf, k1, k2, hL.trans k3 k3.D, ⟨⟨by rw [hy]; exact hsh, by rw [hy]; exact h4.length⟩, ⟨B, by rw [hy, k3.w]; exact h4, h5, fun g hg => ⟨fun hT => ?_, fun j hj hb => ?_, fun hO => ?_⟩⟩, k4⟩, fun g hg => ?_, k6, by simp [k7]⟩
            · rcases k3.T g hT with h9 | ⟨j, h8, h9⟩
              · obtain ⟨i', i1, _, i3⟩ := h6 g hg
                exact hr.s.notTX i1 i3 h9
              · exact hap g hg j h8 h9
            · exact hap g hg j (k3.D j hj) (k3.ow hj hb)
            · rw [k3.w] at hO
              obtain ⟨j, g1, g2, _⟩ := k5 g hO
              exact hap g hg j g1 g2
            · rcases hg with hg | hg
              · rw [hy] at hg
                have hg : OBc c.w [.o t] y.cells.toList g := hg
                rcases hg with hg | hg
                · rw [List.take_of_length_le (by rw [h4.length]; exact Nat.le_refl _)] at hg
                  obtain ⟨i', q1, q2, q3⟩ := takeO_ids (c0 := c0) htk hr h0 hl g hg
                  refine ⟨i', q1, q2, fun M hM => ?_⟩
                  unfold inLim at hlim
                  rw [hM] at hlim
                  have := List.all_eq_true.mp hlim i' q3
                  simpa using this
                · exact hg.elim
              · obtain ⟨j, g1, g2, g3⟩ := k5 g hg
                exact ⟨j, h3 j g1, g2, g3⟩
          · cases h
        · cases h
    · cases h
  | .b t ks :: ps, i, vs, ys, ids, st, c, K, h, hr, h0, ha, ht => by
    simp only [readArgs] at h
    split at h
    · rename_i id vs'
      cases ys with
      | nil => exact ha.elim
      | cons y ys =>
        split at h
        · rename_i hnc
          split at h
          · rename_i t' ls hl
            split at h
            · rename_i htt
              obtain ⟨htt, hlim⟩ := htt
              subst htt
              have hy0 : tA.getD i undef = y := ht 0 y rfl
              have hidD : id ∈ c.D := lookup_D hr.s hl
              obtain ⟨_, gg, hρ0, hyg⟩ := ha.1
              have hρ : c.ρ id = .pointer (some ⟨gg, 0, none⟩) := by rw [h0.ρ id hidD]; exact hρ0
              obtain ⟨gg', conc, m1, m2, m3, m4⟩ := hr.entOf hl
              rw [hρ] at m1
              injection m1 with m1
              injection m1 with m1
              injection m1 with m1 _ _
              subst m1
              obtain ⟨x, st1, c1, h1, h2, h3, h4, h5⟩ := getCKs_some (c0 := c) h hr (Later.refl hr.s) m4
              obtain ⟨xs', ids', st2, cf, k1, k2, k3, k4, k5, ⟨k6, k60⟩, k7⟩ := readArgs_some (c0 := c0) h1 h2 (h0.trans h3 h3.D) ha.2 (fun j y hj => by rw [show i + 1 + j = i + (j + 1) by omega]; exact ht (j + 1) y (by simpa using hj))
              have hyr : y = c.ρ id := by rw [hyg, hρ]
              have hwf : cf.w = c.w := k3.w.trans h3.w
              have hnat : ∀ {w : World} g, w = c.w → natBlk (.b t ks) (tA.getD i undef) w g → OBc c.w ks conc.toList g := by
                rintro w g rfl ⟨g2, conc2, e1, e2, e3⟩
                rw [hy0, hyg] at e1
                injection e1 with e1
                injection e1 with e1
                injection e1 with e1 _ _
                subst e1
                rw [m3] at e2
                injection e2 with e2
                injection e2 with e2 _ _
                rw [e2]
                exact e3
              refine ⟨(x, xs'), some id :: ids', st2, cf, by rw [List.append_assoc] at k1; exact k1, k2, h3.trans k3 k3.D, ⟨id, ids', rfl, fun hD => ⟨⟨gg, conc, by rw [hy0]; exact hyg, by rw [hwf]; exact m3, h4.move (c' := cf) k3.w k3.step.I k3.step.T, fun hF => ?_⟩, ?_⟩, fun hm' => ?_, fun g hg => ?_, k4⟩, fun g hg => ?_, ?_, by simp [k7]⟩
              · -- the block itself is none of its rows
                rw [hwf] at hF
                obtain ⟨⟨j, g1, g2⟩, _, g3⟩ := h5 gg hF
                refine g3 id (k3.D id hD) (.inl ?_)
                rw [h3.ρ id (k3.D id hD), hρ]
                rfl
              · rw [hy0, hyr, k3.ρ id hD, h3.ρ id (k3.D id hD)]
              · rcases k6 _ hm' with h9 | h9
                · exact h9 (List.mem_append_right _ (List.mem_singleton.mpr rfl))
                · cases h9
              · obtain ⟨⟨j, g1, g2⟩, g3, g4⟩ := h5 g (hnat g hwf hg)
                refine ⟨fun hT => ?_, fun j hj hh => ?_, fun hF => ?_⟩
                · rcases k3.T g hT with h9 | ⟨j, h8, h9⟩
                  · exact g3 h9
                  · exact g4 j h8 h9
                · exact g4 j (k3.D j hj) (k3.ow hj hh)
                · rw [hwf, ← h3.w] at hF
                  obtain ⟨j, h8, h9, _⟩ := k5 g hF
                  exact g4 j h8 h9
              · rcases hg with hg | hg
                · obtain ⟨g2, conc2, e1, e2, e3⟩ := hg
                  rcases e3 with e3 | e3
                  · refine ⟨id, hidD, .inl ?_, fun M hM => ?_⟩
                    · rw [hy0, hyr] at e1
                      rw [e1, e3]
                      rfl
                    · rw [hM] at hlim
                      simp only [inLim, List.all_cons, Bool.and_eq_true] at hlim
                      simpa using hlim.1
                  · obtain ⟨i', q1, q2, q4⟩ := getCKs_ids (c0 := c) h hr (Later.refl hr.s) m4 g (hnat g rfl ⟨g2, conc2, e1, e2, e3⟩)
                    refine ⟨i', q1, q2, fun M hM => ?_⟩
                    rw [hM] at hlim
                    simp only [inLim, List.all_cons, Bool.and_eq_true] at hlim
                    have := List.all_eq_true.mp hlim.2 i' q4
                    simpa using this
                · rw [← h3.w] at hg
                  obtain ⟨j, g1, g2, g3⟩ := k5 g hg
                  exact ⟨j, h3.D j g1, h3.ow g1 g2, g3⟩
              · refine ⟨fun o ho => ?_, few_cons (fun hm' => ?_) k60⟩
                rotate_left
                · rcases k6 _ hm' with h9 | h9
                  · exact h9 (List.mem_append_right _ (List.mem_singleton.mpr rfl))
                  · cases h9
                rcases List.mem_cons.mp ho with rfl | ho
                · left
                  intro h9
                  rw [List.contains_eq_mem] at hnc
                  simp [h9] at hnc
                · rcases k6 o ho with h9 | h9
                  · exact .inl fun h8 => h9 (List.mem_append_left _ h8)
                  · exact .inr h9
            · cases h
          · cases h
        · cases h
    · cases h

theorem OBc_g {w : World} {f : FuncId} {agg : Bool} {y : Value} {g : Nat} (h : OBe w (.c agg (.g f)) y g) : False := by
  have h : OBc w [.g f] y.cells.toList g := h
  generalize y.cells.toList = l at h
  cases l with
  | nil => exact h
  | cons a b => exact h

theorem any_num : ∀ {ps : List LK} {i : Nat} {w : World} {tA : Array Value} {g : Nat}, ps.any LK.mut = false → ¬ OBs w tA (num i ps) g
  | [], _, _, _, _, _, h => h
  | .c agg (.v want t) :: ps, i, w, tA, g, hm, h => by
    rcases h with h | h
    · exact h.elim
    · exact any_num (ps := ps) (by simpa [LK.mut] using hm) h
  | .c agg (.r e t) :: ps, i, w, tA, g, hm, h => by simp [LK.mut] at hm
  | .c agg (.o t) :: ps, i, w, tA, g, hm, h => by simp [LK.mut] at hm
  | .c agg (.f k) :: ps, i, w, tA, g, hm, h => by
    rcases h with h | h
    · exact OBc_f h
    · exact any_num (ps := ps) (by simpa [LK.mut] using hm) h
  | .c agg (.g f) :: ps, i, w, tA, g, hm, h => by
    rcases h with h | h
    · exact OBc_g h
    · exact any_num (ps := ps) (by simpa [LK.mut] using hm) h
  | .b t ks :: ps, i, w, tA, g, hm, h => by simp [LK.mut] at hm
  | .t agg t :: ps, i, w, tA, g, hm, h => by simp [LK.mut] at hm

/-- Who owns what is lent. -/
theorem Arg.owner {hm : Bool} {cf : Cx} {tA : Array Value} {store : List (Nat × Ent)} (hs : SRel cf store) : ∀ {ps : List LK} {i : Nat} {xs : sdens (num i ps)} {ids : List (Option Nat)}, Arg hm cf tA (num i ps) xs ids → (∀ id, some id ∈ ids → id ∈ cf.D) →
    ∀ g, OBs cf.w tA (num i ps) g → (∃ id, some id ∈ ids ∧ cf.ow id g) ∨ (¬ cf.T g ∧ ∀ j, j ∈ cf.D → ¬ cf.ow j g)
  | [], _, _, _, _, _, g, hg => hg.elim
  | .c agg (.v want t) :: ps, i, xs, ids, h, hD, g, hg => by
    rcases hg with hg | hg
    · exact hg.elim
    · exact Arg.owner hs h.2.2 hD g hg
  | .c agg (.r e t) :: ps, i, xs, ids, h, hD, g, hg => by
    obtain ⟨o, ids', rfl, h1, h2, h3⟩ := h
    rcases hg with hg | hg
    · have hg' : OBc cf.w [.r e t] (tA.getD i undef).cells.toList g := hg
      rw [one_cells h1.1] at hg'
      rcases hg' with hg' | hg'
      · left
        cases o with
        | none => rw [h2] at hg'; cases hg'
        | some id => exact ⟨id, by simp, .inl (by rw [← h2.1 (hD id (by simp))]; exact hg')⟩
      · exact hg'.elim
    · rcases Arg.owner hs h3 (fun id hi => hD id (by simp [hi])) g hg with ⟨id, g1, g2⟩ | g1
      · exact .inl ⟨id, by simp [g1], g2⟩
      · exact .inr g1
  | .c agg (.f k) :: ps, i, xs, ids, h, hD, g, hg => by
    rcases hg with hg | hg
    · exact (OBc_f hg).elim
    · exact Arg.owner hs h.2.2 hD g hg
  | .c agg (.g f) :: ps, i, xs, ids, h, hD, g, hg => by
    rcases hg with hg | hg
    · exact (OBc_g hg).elim
    · exact Arg.owner hs h.2.2 hD g hg
  | .c agg (.o t) :: ps, i, xs, ids, h, hD, g, hg => by
    obtain ⟨⟨h1, h2⟩, ⟨h3, h4⟩, h5, h6⟩ := h
    rcases hg with hg | hg
    · have hg' : OBc cf.w [.o t] (tA.getD i undef).cells.toList g := hg
      rcases hg' with hg' | hg'
      · rw [List.take_of_length_le (by omega)] at hg'
        obtain ⟨B, k1, k2, k3⟩ := h5.own hs hD h2
        obtain ⟨id, k4, k5⟩ := k3 g ((k1.ft g).mp hg')
        exact .inl ⟨id, List.mem_of_mem_take k4, k5⟩
      · exact hg'.elim
    · rcases Arg.owner hs h6 (fun id hi => hD id (List.mem_of_mem_drop hi)) g hg with ⟨id, g1, g2⟩ | g1
      · exact .inl ⟨id, List.mem_of_mem_drop g1, g2⟩
      · exact .inr g1
  | .t agg t :: ps, i, xs, ids, h, hD, g, hg => by
    obtain ⟨⟨h1, h2⟩, ⟨B, h3, h4, h5⟩, h6⟩ := h
    rcases hg with hg | hg
    · have hg' : OBc cf.w [.o t] (tA.getD i undef).cells.toList g := hg
      rcases hg' with hg' | hg'
      · rw [List.take_of_length_le (by omega)] at hg'
        have := h5 g ((h3.ft g).mp hg')
        exact .inr ⟨this.1, this.2.1⟩
      · exact hg'.elim
    · exact Arg.owner hs h6 hD g hg
  | .b t ks :: ps, i, xs, ids, h, hD, g, hg => by
    obtain ⟨id, ids', rfl, h1, h2, h3, h4⟩ := h
    rcases hg with hg | hg
    · obtain ⟨gg, conc, e1, e2, e3⟩ := hg
      rcases e3 with rfl | e3
      · left
        refine ⟨id, by simp, .inl ?_⟩
        rw [← (h1 (hD id (by simp))).2, e1]
        rfl
      · obtain ⟨g1, g2, _⟩ := h3 g ⟨gg, conc, e1, e2, e3⟩
        exact .inr ⟨g1, g2⟩
    · rcases Arg.owner hs h4 (fun id hi => hD id (by simp [hi])) g hg with ⟨id', g1, g2⟩ | g1
      · exact .inl ⟨id', by simp [g1], g2⟩
      · exact .inr g1

/-- The callee's context: what is lent is its own, all else stays. -/
def Cx.lend (cf : Cx) (tA : Array Value) (sig : List (Nat × LK)) : Cx := { D := [], I := cf.I, T := fun k => k < cf.w.heap.size ∧ ¬ OBs cf.w tA sig k, w := cf.w, ρ := fun _ => undef, X := fun _ _ => False }

theorem Arg.sig {hm : Bool} {cf ci : Cx} {tA : Array Value} {store : List (Nat × Ent)} (hs : SRel cf store) (hw : ci.w = cf.w) (hI : ∀ k, cf.I k → ci.I k) (hT : ∀ k, cf.T k → ci.T k) (hS : hm = false → ∀ k, k < cf.w.heap.size → ci.T k) : ∀ {ps : List LK} {i : Nat} {xs : sdens (num i ps)} {ids : List (Option Nat)}, Arg hm cf tA (num i ps) xs ids → (∀ id, some id ∈ ids → id ∈ cf.D) →
    SigRel ci tA (num i ps) xs
  | [], _, _, _, _, _ => trivial
  | .c agg (.v want t) :: ps, i, xs, ids, ⟨h1, h2, h3⟩, hD => by
    refine ⟨⟨h1, ?_, ?_⟩, fun g hg => hg.elim, Arg.sig hs hw hI hT hS h3 hD⟩
    · show RdE (ci.S want) t ci.w xs.1 ((tA.getD i undef).cells.toList.take t.sz)
      rw [List.take_of_length_le (by rw [h2.length]; exact Nat.le_refl _), hw]
      refine h2.step (agree.refl _ _) fun k hk => ?_
      unfold Cx.S
      cases want with
      | true => exact hI k hk
      | false =>
        cases hm with
        | true => exact hT k hk
        | false => exact hS rfl k hk
    · show CKsRel ci [] () ((tA.getD i undef).cells.toList.drop t.sz)
      rw [List.drop_eq_nil_of_le (by rw [h2.length]; exact Nat.le_refl _)]
      trivial
  | .c agg (.r e t) :: ps, i, xs, ids, h, hD => by
    obtain ⟨o, ids', rfl, h1, h2, h3⟩ := h
    refine ⟨h1.2.move hw hI hT, fun g hg hF => ?_, Arg.sig hs hw hI hT hS h3 (fun id hi => hD id (by simp [hi]))⟩
    rw [hw] at hg hF
    have hg' : OBc cf.w [.r e t] (tA.getD i undef).cells.toList g := hg
    rw [one_cells h1.1] at hg'
    rcases hg' with hg' | hg'
    · cases o with
      | none => rw [h2] at hg'; cases hg'
      | some id =>
        have hid := hD id (by simp)
        rw [h2.1 hid] at hg'
        rcases Arg.owner hs h3 (fun id hi => hD id (by simp [hi])) g hF with ⟨id', g1, g2⟩ | ⟨_, g1⟩
        · exact hs.apartX id id' g hid (hD id' (by simp [g1])) (fun e => h2.2 (by rw [e]; exact g1)) (.inl hg') g2
        · exact g1 id hid (.inl hg')
    · exact hg'.elim
  | .c agg (.f fk) :: ps, i, xs, ids, ⟨h1, q1, h3⟩, hD => by
    refine ⟨⟨?_, ?_⟩, fun g hg => (OBc_f hg).elim, Arg.sig hs hw hI hT hS h3 hD⟩
    · rw [h1.1]; exact h1.2
    · show CKsRel ci [.f fk] (xs.1, ()) (tA.getD i undef).cells.toList
      rw [one_cells h1.2]
      refine ⟨FK.rel_step (by rw [hw]; exact agree.refl _ _) (fun k hk => ?_) q1, trivial⟩
      unfold Cx.S
      cases hkw : fk.want with
      | true => rw [hkw] at hk; exact hI k hk
      | false =>
        rw [hkw] at hk
        cases hm with
        | true => exact hT k hk
        | false => exact hS rfl k hk
  | .c agg (.g f) :: ps, i, xs, ids, ⟨h1, q1, h3⟩, hD => by
    refine ⟨⟨?_, ?_⟩, fun g hg => (OBc_g hg).elim, Arg.sig hs hw hI hT hS h3 hD⟩
    · show shape agg (tA.getD i undef)
      rw [h1, q1]; rfl
    · show CKsRel ci [.g f] ((), ()) (tA.getD i undef).cells.toList
      rw [q1]
      exact ⟨rfl, trivial⟩
  | .c agg (.o t) :: ps, i, xs, ids, h, hD => by
    obtain ⟨⟨h1, h2⟩, ⟨h3, h4⟩, h5, h6⟩ := h
    obtain ⟨B, k1, k2, k3⟩ := h5.own hs hD h2
    have e1 : (tA.getD i undef).cells.toList.take t.sz = (tA.getD i undef).cells.toList := List.take_of_length_le (by omega)
    refine ⟨⟨h3, ⟨B, by rw [hw, e1]; exact k1, k2⟩, fun g _ hF => hF.elim, ?_⟩, fun g hg hF => ?_, Arg.sig hs hw hI hT hS h6 (fun id hi => hD id (List.mem_of_mem_drop hi))⟩
    · show CKsRel ci [] () ((tA.getD i undef).cells.toList.drop t.sz)
      rw [List.drop_eq_nil_of_le (by omega)]
      trivial
    rw [hw] at hg hF
    have hg' : OBc cf.w [.o t] (tA.getD i undef).cells.toList g := hg
    rcases hg' with hg' | hg'
    · rw [e1] at hg'
      obtain ⟨id, k4, k5⟩ := k3 g ((k1.ft g).mp hg')
      have hid := hD id (List.mem_of_mem_take k4)
      rcases Arg.owner hs h6 (fun id hi => hD id (List.mem_of_mem_drop hi)) g hF with ⟨id', g1, g2⟩ | ⟨_, g1⟩
      · exact hs.apartX id id' g hid (hD id' (List.mem_of_mem_drop g1)) (fun e => few_disj h2 k4 (by rw [e]; exact g1)) k5 g2
      · exact g1 id hid k5
    · exact hg'.elim
  | .t agg t :: ps, i, xs, ids, h, hD => by
    obtain ⟨⟨h1, h2⟩, ⟨B, h3, h4, h5⟩, h6⟩ := h
    have e1 : (tA.getD i undef).cells.toList.take t.sz = (tA.getD i undef).cells.toList := List.take_of_length_le (by omega)
    refine ⟨⟨h1, ⟨B, by rw [hw, e1]; exact h3, h4⟩, fun g _ hF => hF.elim, ?_⟩, fun g hg hF => ?_, Arg.sig hs hw hI hT hS h6 hD⟩
    · show CKsRel ci [] () ((tA.getD i undef).cells.toList.drop t.sz)
      rw [List.drop_eq_nil_of_le (by omega)]
      trivial
    · rw [hw] at hg hF
      have hg' : OBc cf.w [.o t] (tA.getD i undef).cells.toList g := hg
      rcases hg' with hg' | hg'
      · rw [e1] at hg'
        exact (h5 g ((h3.ft g).mp hg')).2.2 hF
      · exact hg'.elim
  | .b t ks :: ps, i, xs, ids, h, hD => by
    obtain ⟨id, ids', rfl, h1, h2, h3, h4⟩ := h
    have hid := hD id (by simp)
    obtain ⟨k1, k2⟩ := h1 hid
    refine ⟨k1.move hw hI hT, fun g hg hF => ?_, Arg.sig hs hw hI hT hS h4 (fun id hi => hD id (by simp [hi]))⟩
    rw [hw] at hg hF
    obtain ⟨gg, conc, e1, e2, e3⟩ := hg
    rcases e3 with rfl | e3
    · have hb : blk (cf.ρ id) = some g := by rw [← k2, e1]; rfl
      rcases Arg.owner hs h4 (fun id hi => hD id (by simp [hi])) g hF with ⟨id', g1, g2⟩ | ⟨_, g1⟩
      · exact hs.apartX id id' g hid (hD id' (by simp [g1])) (fun e => h2 (by rw [e]; exact g1)) (.inl hb) g2
      · exact g1 id hid (.inl hb)
    · exact (h3 g ⟨gg, conc, e1, e2, e3⟩).2.2 hF

theorem present_D {store : List (Nat × Ent)} {c : Cx} (hs : SRel c store) {ids : List (Option Nat)} (h : present store ids = true) : ∀ id, some id ∈ ids → id ∈ c.D := by
  intro id hi
  have := List.all_eq_true.mp h _ hi
  simp only at this
  cases hl : lookup store id with
  | none => rw [hl] at this; cases this
  | some e => exact lookup_D (st := { env := [], store := store }) hs hl

/-- The lent ones, beside the values. -/
def LentO (cf : Cx) : (t : Ty) → List Value → List (Option Nat) → Prop
  | .rs _ _, cs, ids => ∃ y o, cs = [y] ∧ ids.head? = some o ∧ y.oneCell' = true ∧ (match o with | some id => id ∈ cf.D ∧ y = cf.ρ id | none => y = .slice none 0 0)
  | .pair a b, cs, ids => LentO cf a (cs.take a.sz) ids ∧ LentO cf b (cs.drop a.sz) (ids.drop (rsN a))
  | _, _, _ => True
theorem OArg.lent {cf : Cx} : ∀ {t : Ty} {x : t.den} {cs : List Value} {ids : List (Option Nat)}, OArg cf t x cs ids → (∀ id, some id ∈ ids → id ∈ cf.D) → LentO cf t cs ids
  | .rs e t, x, cs, ids, ⟨y, o, h1, h2, h3, h4⟩, hD => by
    refine ⟨y, o, h1, h2, h3, ?_⟩
    cases o with
    | none => exact h4.1
    | some id =>
      have hi := hD id (List.mem_of_mem_take (head_mem h2))
      exact ⟨hi, (h4 hi).1⟩
  | .pair a b, p, cs, ids, ⟨h1, h2⟩, hD => ⟨h1.lent hD, h2.lent fun id hi => hD id (List.mem_of_mem_drop hi)⟩
  | .int _, _, _, _, _, _ => trivial
  | .bool, _, _, _, _, _ => trivial
  | .str, _, _, _, _, _ => trivial
def LentM (cf : Cx) : (ms : List LK) → List Value → List (Option Nat) → Prop
  | [], [], [] => True
  | .c _ (.o t) :: ms, y :: ys, ids => (rsN t ≤ ids.length ∧ fewIds ids = true) ∧ LentO cf t y.cells.toList ids ∧ LentM cf ms ys (ids.drop (rsN t))
  | .c _ (.r _ _) :: ms, y :: ys, o :: ids => (match o with | some id => id ∈ cf.D ∧ y = cf.ρ id ∧ some id ∉ ids | none => y = .slice none 0 0) ∧ y.oneCell' = true ∧ LentM cf ms ys ids
  | .b _ _ :: ms, y :: ys, o :: ids => (match o with | some id => id ∈ cf.D ∧ y = cf.ρ id ∧ some id ∉ ids | none => y = .slice none 0 0) ∧ y.oneCell' = true ∧ LentM cf ms ys ids
  | _, _, _ => False
theorem Arg.lent {hm : Bool} {cf : Cx} {tA : Array Value} : ∀ {ps : List LK} {i : Nat} {xs : sdens (num i ps)} {ids : List (Option Nat)}, Arg hm cf tA (num i ps) xs ids → (∀ id, some id ∈ ids → id ∈ cf.D) →
    LentM cf (muts ps) ((mutNums (num i ps)).map fun s => tA.getD s undef) ids
  | [], _, _, _, h, _ => by
    have h : _ = [] := h
    rw [h]
    trivial
  | .c agg (.v want t) :: ps, i, xs, ids, ⟨_, _, h3⟩, hD => by
    have := Arg.lent (ps := ps) (i := i + 1) h3 hD
    exact this
  | .c agg (.r e t) :: ps, i, xs, ids, h, hD => by
    obtain ⟨o, ids', rfl, h1, h2, h3⟩ := h
    refine ⟨?_, h1.1, Arg.lent h3 (fun id hi => hD id (by simp [hi]))⟩
    cases o with
    | none => exact h2
    | some id => exact ⟨hD id (by simp), h2.1 (hD id (by simp)), h2.2⟩
  | .c agg (.f k) :: ps, i, xs, ids, ⟨_, _, h3⟩, hD => by
    have := Arg.lent (ps := ps) (i := i + 1) h3 hD
    exact this
  | .c agg (.g f) :: ps, i, xs, ids, ⟨_, _, h3⟩, hD => by
    have := Arg.lent (ps := ps) (i := i + 1) h3 hD
    exact this
  | .c agg (.o t) :: ps, i, xs, ids, h, hD => by
    obtain ⟨h1, _, h5, h6⟩ := h
    have := Arg.lent (ps := ps) (i := i + 1) h6 (fun id hi => hD id (List.mem_of_mem_drop hi))
    exact ⟨h1, h5.lent hD, this⟩
  | .t agg t :: ps, i, xs, ids, ⟨_, _, h3⟩, hD => by
    have := Arg.lent (ps := ps) (i := i + 1) h3 hD
    exact this
  | .b t ks :: ps, i, xs, ids, h, hD => by
    obtain ⟨id, ids', rfl, h1, h2, h3, h4⟩ := h
    exact ⟨⟨hD id (by simp), (h1 (hD id (by simp))).2, h2⟩, by obtain ⟨⟨gg, conc, e1, _⟩, _⟩ := h1 (hD id (by simp)); show (tA.getD i undef).oneCell' = true; rw [e1]; rfl, Arg.lent h4 (fun id hi => hD id (by simp [hi]))⟩

theorem mutVals_rel {tmps : Array Value} (hr : Rel c st tmps) : ∀ {ss : List Nat} {ms : List V1}, mutVals ss st = some ms → All2 (v1Rel c) ms (ss.map fun s => tmps.getD s undef)
  | [], ms, h => by simp [mutVals] at h; subst h; trivial
  | s :: ss, ms, h => by
    simp only [mutVals] at h
    split at h
    · rename_i v hv
      cases hm : mutVals ss st with
      | none => rw [hm] at h; cases h
      | some ms' =>
        rw [hm] at h
        injection h with h
        subst h
        have := hr.get s
        rw [hv] at this
        exact ⟨this, mutVals_rel hr hm⟩
    · cases h

/-! ### What is given back -/
theorem one_of_RdE {S : Nat → Prop} {t : Ty} {w : World} {x : t.den} {cs : List Value} (h : RdE S t w x (cs.take t.sz)) : t.sz ≤ cs.length ∧ ∀ u ∈ cs.take t.sz, u.oneCell' = true := by
  have := h.length
  rw [List.length_take] at this
  exact ⟨by omega, h.one⟩
theorem CKsRel.cells {c : Cx} : ∀ {ks : List CK} {x : cdens ks} {cs : List Value}, CKsRel c ks x cs → cs.length = csz ks ∧ ∀ u ∈ cs, u.oneCell' = true
  | [], _, [], _ => ⟨rfl, fun u hu => by cases hu⟩
  | [], _, _ :: _, h => h.elim
  | .v want t :: ks, x, cs, ⟨h1, h2⟩ => by
    obtain ⟨k1, k2⟩ := h2.cells
    obtain ⟨k3, k4⟩ := one_of_RdE h1
    rw [List.length_drop] at k1
    refine ⟨by simp only [csz, CK.sz]; omega, fun u hu => ?_⟩
    rw [← List.take_append_drop t.sz cs] at hu
    rcases List.mem_append.mp hu with hu | hu
    · exact k4 u hu
    · exact k2 u hu
  | .r e t :: ks, x, y :: rest, ⟨h1, h2, h3, h4⟩ => by
    obtain ⟨k1, k2⟩ := h4.cells
    refine ⟨by simp only [csz, CK.sz, List.length_cons]; omega, fun u hu => ?_⟩
    rcases List.mem_cons.mp hu with rfl | hu
    · exact h2
    · exact k2 u hu
  | .r e t :: ks, x, [], h => h.elim
  | .f k :: ks, x, y :: rest, ⟨h1, h4⟩ => by
    obtain ⟨k1, k2⟩ := h4.cells
    refine ⟨by simp only [csz, CK.sz, List.length_cons]; omega, fun u hu => ?_⟩
    rcases List.mem_cons.mp hu with rfl | hu
    · exact FK.rel_one h1
    · exact k2 u hu
  | .g f :: ks, x, y :: rest, ⟨h1, h4⟩ => by
    obtain ⟨k1, k2⟩ := h4.cells
    refine ⟨by simp only [csz, CK.sz, List.length_cons]; omega, fun u hu => ?_⟩
    rcases List.mem_cons.mp hu with rfl | hu
    · rw [h1]; rfl
    · exact k2 u hu
  | .f _ :: ks, x, [], h => h.elim
  | .g _ :: ks, x, [], h => h.elim
  | .o t :: ks, x, cs, ⟨⟨B, h1, h0⟩, h3, h2⟩ => by
    obtain ⟨k1, k2⟩ := h2.cells
    have k3 := h1.length
    rw [List.length_drop] at k1
    rw [List.length_take] at k3
    refine ⟨by simp only [csz, CK.sz]; omega, fun u hu => ?_⟩
    rw [← List.take_append_drop t.sz cs] at hu
    rcases List.mem_append.mp hu with hu | hu
    · exact h1.one u hu
    · exact k2 u hu

/-- A lent one's new entry. -/
def LendO : (t : Ty) → t.den → List (Option Nat) → Nat → Ent → Prop
  | .rs e' t, xs, ids, j, e => ids.head? = some (some j) ∧ e = mkRow e' t xs
  | .pair a b, p, ids, j, e => LendO a p.1 ids j e ∨ LendO b p.2 (ids.drop (rsN a)) j e
  | _, _, _, _, _ => False
theorem lendO_spec : ∀ {t : Ty} {x : t.den} {ids : List (Option Nat)} {st : St}, rsN t ≤ ids.length →
    (lendO t x ids st).1 = ids.drop (rsN t) ∧ ((lendO t x ids st).2.store.map (·.1) = st.store.map (·.1) ∧ (lendO t x ids st).2.env = st.env) ∧ ∀ j e, (j, e) ∈ (lendO t x ids st).2.store → (some j ∉ ids.take (rsN t) ∧ (j, e) ∈ st.store) ∨ LendO t x ids j e
  | .int _, x, ids, st, _ => ⟨rfl, ⟨rfl, rfl⟩, fun j e h => .inl ⟨by simp [rsN], h⟩⟩
  | .bool, x, ids, st, _ => ⟨rfl, ⟨rfl, rfl⟩, fun j e h => .inl ⟨by simp [rsN], h⟩⟩
  | .str, x, ids, st, _ => ⟨rfl, ⟨rfl, rfl⟩, fun j e h => .inl ⟨by simp [rsN], h⟩⟩
  | .rs e' t, x, [], st, hl => by simp [rsN] at hl
  | .rs e' t, x, none :: ids, st, hl => ⟨rfl, ⟨rfl, rfl⟩, fun j e h => .inl ⟨by simp [rsN], h⟩⟩
  | .rs e' t, x, some id :: ids, st, hl => by
    refine ⟨rfl, ⟨setEnt_ids _ _ _, rfl⟩, fun j e h => ?_⟩
    rcases setEnt_mem h with ⟨h3, h4⟩ | ⟨h3, h4⟩
    · exact .inr ⟨by rw [h3]; rfl, h4⟩
    · exact .inl ⟨by simp [rsN, h3], h4⟩
  | .pair a b, p, ids, st, hl => by
    simp only [rsN] at hl
    obtain ⟨h1, ⟨h2, h20⟩, h3⟩ := lendO_spec (t := a) (x := p.1) (ids := ids) (st := st) (by omega)
    obtain ⟨k1, ⟨k2, k20⟩, k3⟩ := lendO_spec (t := b) (x := p.2) (ids := (lendO a p.1 ids st).1) (st := (lendO a p.1 ids st).2) (by rw [h1, List.length_drop]; omega)
    rw [h1] at k1 k2 k20 k3
    refine ⟨?_, ⟨?_, ?_⟩, fun j e h => ?_⟩
    · show (lendO b p.2 (lendO a p.1 ids st).1 (lendO a p.1 ids st).2).1 = _
      rw [h1, k1, List.drop_drop]
      rfl
    · show (lendO b p.2 (lendO a p.1 ids st).1 (lendO a p.1 ids st).2).2.store.map (·.1) = _
      rw [h1, k2, h2]
    · show (lendO b p.2 (lendO a p.1 ids st).1 (lendO a p.1 ids st).2).2.env = _
      rw [h1, k20, h20]
    · have h : (j, e) ∈ (lendO b p.2 (lendO a p.1 ids st).1 (lendO a p.1 ids st).2).2.store := h
      rw [h1] at h
      rcases k3 j e h with ⟨m1, m2⟩ | m1
      · rcases h3 j e m2 with ⟨q1, q2⟩ | q1
        · refine .inl ⟨fun hh => ?_, q2⟩
          rcases mem_take_drop hh with hh | hh
          · exact q1 hh
          · exact m1 hh
        · exact .inr (.inl q1)
      · exact .inr (.inr m1)
def LendE : (i : Nat) → (ms : List LK) → sdens (num i ms) → List (Option Nat) → Nat → Ent → Prop
  | _, [], _, _, _, _ => False
  | i, .c _ (.v _ _) :: ms, x, ids, j, e => LendE (i + 1) ms x.2 ids j e
  | i, .c _ (.r e' t) :: ms, x, ids, j, e =>
    match ids with
    | some id :: ids => (j = id ∧ e = .row e' t x.1) ∨ LendE (i + 1) ms x.2 ids j e
    | none :: ids => LendE (i + 1) ms x.2 ids j e
    | [] => False
  | i, .c _ (.f _) :: ms, x, ids, j, e => LendE (i + 1) ms x.2 ids j e
  | i, .c _ (.g _) :: ms, x, ids, j, e => LendE (i + 1) ms x.2 ids j e
  | i, .c _ (.o t) :: ms, x, ids, j, e => LendO t x.1 ids j e ∨ LendE (i + 1) ms x.2 (ids.drop (rsN t)) j e
  | i, .t _ _ :: ms, x, ids, j, e => LendE (i + 1) ms x.2 ids j e
  | i, .b t ks :: ms, x, ids, j, e =>
    match ids with
    | some id :: ids => (j = id ∧ e = .box t (List.replicate (csz ks) .dead)) ∨ LendE (i + 1) ms x.2 ids j e
    | none :: ids => LendE (i + 1) ms x.2 ids j e
    | [] => False

theorem lendSt_mem {cf : Cx} : ∀ {ms : List LK} {i : Nat} {x : sdens (num i ms)} {ys : List Value} {ids : List (Option Nat)} {st : St} {j : Nat} {e : Ent}, ms.all LK.mut = true → LentM cf ms ys ids → (j, e) ∈ (lendSt i ms x ids st).store → (some j ∉ ids ∧ (j, e) ∈ st.store) ∨ LendE i ms x ids j e
  | [], i, x, ys, ids, st, j, e, _, hl, h => by
    cases ids with
    | nil => exact .inl ⟨by simp, h⟩
    | cons _ _ => cases ys <;> exact hl.elim
  | .c agg (.v want t) :: ms, i, x, ys, ids, st, j, e, hm, hl, h => by simp [LK.mut] at hm
  | .c agg (.f _) :: ms, i, x, ys, ids, st, j, e, hm, hl, h => by simp [LK.mut] at hm
  | .c agg (.g _) :: ms, i, x, ys, ids, st, j, e, hm, hl, h => by simp [LK.mut] at hm
  | .c agg (.r e' t) :: ms, i, x, y :: ys, some id :: ids, st, j, e, hm, hl, h => by
    rcases lendSt_mem (cf := cf) (by simpa [LK.mut] using hm) hl.2.2 h with ⟨h1, h2⟩ | h1
    · rcases setEnt_mem h2 with ⟨h3, h4⟩ | ⟨h3, h4⟩
      · exact .inr (.inl ⟨h3, h4⟩)
      · exact .inl ⟨by simp [h1, h3], h4⟩
    · exact .inr (.inr h1)
  | .c agg (.r e' t) :: ms, i, x, y :: ys, none :: ids, st, j, e, hm, hl, h => by
    rcases lendSt_mem (cf := cf) (by simpa [LK.mut] using hm) hl.2.2 h with ⟨h1, h2⟩ | h1
    · exact .inl ⟨by simp [h1], h2⟩
    · exact .inr h1
  | .b t ks :: ms, i, x, y :: ys, some id :: ids, st, j, e, hm, hl, h => by
    rcases lendSt_mem (cf := cf) (by simpa [LK.mut] using hm) hl.2.2 h with ⟨h1, h2⟩ | h1
    · rcases setEnt_mem h2 with ⟨h3, h4⟩ | ⟨h3, h4⟩
      · exact .inr (.inl ⟨h3, h4⟩)
      · exact .inl ⟨by simp [h1, h3], h4⟩
    · exact .inr (.inr h1)
  | .b t ks :: ms, i, x, y :: ys, none :: ids, st, j, e, hm, hl, h => by
    rcases lendSt_mem (cf := cf) (by simpa [LK.mut] using hm) hl.2.2 h with ⟨h1, h2⟩ | h1
    · exact .inl ⟨by simp [h1], h2⟩
    · exact .inr h1
  | .c agg (.r e' t) :: ms, i, x, [], ids, st, j, e, hm, hl, h => by cases ids <;> exact hl.elim
  | .c agg (.r e' t) :: ms, i, x, y :: ys, [], st, j, e, hm, hl, h => hl.elim
  | .b t ks :: ms, i, x, [], ids, st, j, e, hm, hl, h => by cases ids <;> exact hl.elim
  | .b t ks :: ms, i, x, y :: ys, [], st, j, e, hm, hl, h => hl.elim
  | .c agg (.o t) :: ms, i, x, [], ids, st, j, e, hm, hl, h => by cases ids <;> exact hl.elim
  | .t agg t :: ms, i, x, ys, ids, st, j, e, hm, hl, h => by cases ys <;> cases ids <;> exact hl.elim
  | .c agg (.o t) :: ms, i, x, y :: ys, ids, st, j, e, hm, ⟨⟨l1, l2⟩, l3, l4⟩, h => by
    obtain ⟨k1, k2, k3⟩ := lendO_spec (t := t) (x := x.1) (ids := ids) (st := st) l1
    have h : (j, e) ∈ (lendSt (i + 1) ms x.2 (lendO t x.1 ids st).1 (lendO t x.1 ids st).2).store := h
    rw [k1] at h
    rcases lendSt_mem (cf := cf) (by simpa [LK.mut] using hm) l4 h with ⟨h1, h2⟩ | h1
    · rcases k3 j e h2 with ⟨q1, q2⟩ | q1
      · refine .inl ⟨fun hh => ?_, q2⟩
        rw [← List.take_append_drop (rsN t) ids] at hh
        rcases List.mem_append.mp hh with hh | hh
        · exact q1 hh
        · exact h1 hh
      · exact .inr (.inl q1)
    · exact .inr (.inr h1)

theorem lendO_ids : ∀ {t : Ty} {x : t.den} {ids : List (Option Nat)} {st : St}, (lendO t x ids st).2.store.map (·.1) = st.store.map (·.1) ∧ (lendO t x ids st).2.env = st.env
  | .int _, x, ids, st => ⟨rfl, rfl⟩
  | .bool, x, ids, st => ⟨rfl, rfl⟩
  | .str, x, ids, st => ⟨rfl, rfl⟩
  | .rs e' t, x, [], st => ⟨rfl, rfl⟩
  | .rs e' t, x, none :: ids, st => ⟨rfl, rfl⟩
  | .rs e' t, x, some id :: ids, st => ⟨setEnt_ids _ _ _, rfl⟩
  | .pair a b, p, ids, st => by
    obtain ⟨h1, h2⟩ := lendO_ids (t := a) (x := p.1) (ids := ids) (st := st)
    obtain ⟨k1, k2⟩ := lendO_ids (t := b) (x := p.2) (ids := (lendO a p.1 ids st).1) (st := (lendO a p.1 ids st).2)
    exact ⟨k1.trans h1, k2.trans h2⟩
theorem lendSt_ids : ∀ {ms : List LK} {i : Nat} {x : sdens (num i ms)} {ids : List (Option Nat)} {st : St}, (lendSt i ms x ids st).store.map (·.1) = st.store.map (·.1) ∧ (lendSt i ms x ids st).env = st.env
  | [], _, _, _, _ => ⟨rfl, rfl⟩
  | .c agg (.v want t) :: ms, i, x, ids, st => lendSt_ids (ms := ms)
  | .c agg (.f _) :: ms, i, x, ids, st => lendSt_ids (ms := ms)
  | .c agg (.g _) :: ms, i, x, ids, st => lendSt_ids (ms := ms)
  | .c agg (.r e t) :: ms, i, x, some id :: ids, st => by
    obtain ⟨h1, h2⟩ := lendSt_ids (ms := ms) (i := i + 1) (x := x.2) (ids := ids) (st := st.setEnt id (.row e t x.1))
    exact ⟨h1.trans (setEnt_ids _ _ _), h2⟩
  | .c agg (.r e t) :: ms, i, x, none :: ids, st => lendSt_ids (ms := ms)
  | .c agg (.r e t) :: ms, i, x, [], st => ⟨rfl, rfl⟩
  | .c agg (.o t) :: ms, i, x, ids, st => by
    obtain ⟨h1, h2⟩ := lendO_ids (t := t) (x := x.1) (ids := ids) (st := st)
    obtain ⟨k1, k2⟩ := lendSt_ids (ms := ms) (i := i + 1) (x := x.2) (ids := (lendO t x.1 ids st).1) (st := (lendO t x.1 ids st).2)
    exact ⟨k1.trans h1, k2.trans h2⟩
  | .b t ks :: ms, i, x, some id :: ids, st => by
    obtain ⟨h1, h2⟩ := lendSt_ids (ms := ms) (i := i + 1) (x := x.2) (ids := ids) (st := st.setEnt id (.box t (List.replicate (csz ks) .dead)))
    exact ⟨h1.trans (setEnt_ids _ _ _), h2⟩
  | .b t ks :: ms, i, x, none :: ids, st => lendSt_ids (ms := ms)
  | .t agg t :: ms, i, x, ids, st => lendSt_ids (ms := ms)
  | .b t ks :: ms, i, x, [], st => ⟨rfl, rfl⟩

/-- What a lent row owns when it is given back. -/
def FXo (w : World) : (t : Ty) → List Value → List (Option Nat) → Nat → Nat → Prop
  | .rs e t, cs, ids, j, g => ids.head? = some (some j) ∧ Ft (.rs e t) w cs g
  | .pair a b, cs, ids, j, g => FXo w a (cs.take a.sz) ids j g ∨ FXo w b (cs.drop a.sz) (ids.drop (rsN a)) j g
  | _, _, _, _, _ => False
def FX (w : World) : (ms : List LK) → List Value → List (Option Nat) → Nat → Nat → Prop
  | .c _ (.o t) :: ms, y :: ys, ids, j, g => FXo w t y.cells.toList ids j g ∨ FX w ms ys (ids.drop (rsN t)) j g
  | .c _ (.r _ _) :: ms, y :: ys, o :: ids, j, g => (o = some j ∧ blk y = some g) ∨ FX w ms ys ids j g
  | .b _ _ :: ms, y :: ys, o :: ids, j, g => (o = some j ∧ blk y = some g) ∨ FX w ms ys ids j g
  | _, _, _, _, _ => False
theorem FXo.ft {w : World} : ∀ {t : Ty} {cs : List Value} {ids : List (Option Nat)} {j g : Nat}, FXo w t cs ids j g → Ft t w cs g
  | .rs e t, cs, ids, j, g, h => h.2
  | .pair a b, cs, ids, j, g, h => by
    rcases h with h | h
    · exact .inl h.ft
    · exact .inr h.ft
  | .int _, _, _, _, _, h => h.elim
  | .bool, _, _, _, _, h => h.elim
  | .str, _, _, _, _, h => h.elim
theorem FXo.mem {w : World} : ∀ {t : Ty} {cs : List Value} {ids : List (Option Nat)} {j g : Nat}, FXo w t cs ids j g → some j ∈ ids.take (rsN t)
  | .rs e t, cs, ids, j, g, h => head_mem h.1
  | .pair a b, cs, ids, j, g, h => by
    rcases h with h | h
    · exact mem_take_l h.mem
    · exact mem_take_r h.mem
  | .int _, _, _, _, _, h => h.elim
  | .bool, _, _, _, _, h => h.elim
  | .str, _, _, _, _, h => h.elim
theorem FXo.apart {w : World} : ∀ {t : Ty} {B : List Nat} {x : t.den} {cs : List Value} {ids : List (Option Nat)} {j j' g : Nat}, OwnE t w B x cs → B.Nodup → FXo w t cs ids j g → FXo w t cs ids j' g → j = j'
  | .rs e t, B, x, cs, ids, j, j', g, _, _, h, h' => by
    have h1 := h.1
    rw [h'.1] at h1
    injection h1 with h1
    injection h1 with h1
    exact h1.symm
  | .pair a b, B, x, cs, ids, j, j', g, ⟨B0, B1, c0, c1, e1, e2, k0, k1⟩, hn, h, h' => by
    have l0 := k0.length
    have t0 : cs.take a.sz = c0 := by rw [e2, List.take_left' l0]
    have t1 : cs.drop a.sz = c1 := by rw [e2, List.drop_left' l0]
    rw [e1, List.nodup_append] at hn
    rcases h with h | h <;> rcases h' with h' | h'
    · rw [t0] at h h'; exact FXo.apart k0 hn.1 h h'
    · rw [t0] at h; rw [t1] at h'
      exact absurd rfl (hn.2.2 g ((k0.ft g).mp h.ft) g ((k1.ft g).mp h'.ft))
    · rw [t1] at h; rw [t0] at h'
      exact absurd rfl (hn.2.2 g ((k0.ft g).mp h'.ft) g ((k1.ft g).mp h.ft))
    · rw [t1] at h h'; exact FXo.apart k1 hn.2.1 h h'
  | .int _, _, _, _, _, _, _, _, _, _, h, _ => h.elim
  | .bool, _, _, _, _, _, _, _, _, _, h, _ => h.elim
  | .str, _, _, _, _, _, _, _, _, _, h, _ => h.elim
theorem FXo.of_blk {cf : Cx} {w : World} {j g : Nat} (hb : blk (cf.ρ j) = some g) : ∀ {t : Ty} {cs : List Value} {ids : List (Option Nat)}, LentO cf t cs ids → some j ∈ ids.take (rsN t) → FXo w t cs ids j g
  | .rs e t, cs, ids, ⟨y, o, h1, h2, h3, h4⟩, hj => by
    cases ids with
    | nil => cases h2
    | cons a r =>
      injection h2 with h2
      subst h2
      simp only [rsN, List.take_succ_cons, List.take_zero, List.mem_singleton] at hj
      subst hj
      refine ⟨rfl, y, h1, .inl ?_⟩
      rw [h4.2]; exact hb
  | .pair a b, cs, ids, ⟨h1, h2⟩, hj => by
    rcases mem_take_drop hj with hj | hj
    · exact .inl (FXo.of_blk hb h1 hj)
    · exact .inr (FXo.of_blk hb h2 hj)
  | .int _, _, _, _, hj => by simp [rsN] at hj
  | .bool, _, _, _, hj => by simp [rsN] at hj
  | .str, _, _, _, hj => by simp [rsN] at hj
theorem FX.of_blk {cf : Cx} {w : World} {j g : Nat} (hb : blk (cf.ρ j) = some g) : ∀ {ms : List LK} {ys : List Value} {ids : List (Option Nat)}, LentM cf ms ys ids → some j ∈ ids → FX w ms ys ids j g
  | [], ys, ids, hl, hj => by
    cases ids with
    | nil => cases hj
    | cons _ _ => cases ys <;> exact hl.elim
  | .c agg (.v _ _) :: ms, ys, ids, hl, hj => by cases ys <;> cases ids <;> exact hl.elim
  | .c agg (.f _) :: ms, ys, ids, hl, hj => by cases ys <;> cases ids <;> exact hl.elim
  | .c agg (.g _) :: ms, ys, ids, hl, hj => by cases ys <;> cases ids <;> exact hl.elim
  | .c agg (.r e t) :: ms, y :: ys, o :: ids, ⟨h1, h2, h3⟩, hj => by
    rcases List.mem_cons.mp hj with rfl | hj
    · exact .inl ⟨rfl, by rw [h1.2.1]; exact hb⟩
    · exact .inr (FX.of_blk hb h3 hj)
  | .b t ks :: ms, y :: ys, o :: ids, ⟨h1, h2, h3⟩, hj => by
    rcases List.mem_cons.mp hj with rfl | hj
    · exact .inl ⟨rfl, by rw [h1.2.1]; exact hb⟩
    · exact .inr (FX.of_blk hb h3 hj)
  | .c agg (.o t) :: ms, y :: ys, ids, ⟨h1, h2, h3⟩, hj => by
    rw [← List.take_append_drop (rsN t) ids] at hj
    rcases List.mem_append.mp hj with hj | hj
    · exact .inl (FXo.of_blk hb h2 hj)
    · exact .inr (FX.of_blk hb h3 hj)
  | .c agg (.r e t) :: ms, [], ids, hl, hj => by cases ids <;> exact hl.elim
  | .c agg (.r e t) :: ms, y :: ys, [], hl, hj => hl.elim
  | .b t ks :: ms, [], ids, hl, hj => by cases ids <;> exact hl.elim
  | .b t ks :: ms, y :: ys, [], hl, hj => hl.elim
  | .c agg (.o t) :: ms, [], ids, hl, hj => by cases ids <;> exact hl.elim
  | .t agg t :: ms, ys, ids, hl, hj => by cases ys <;> cases ids <;> exact hl.elim

/-- A lent one's new entry is so. -/
theorem LendO.rel {cf c3 cx : Cx} {j : Nat} {e : Ent} (hw : cx.w = c3.w) (hρ : cx.ρ = cf.ρ) (hT : ∀ g, (∃ j, j ∈ cf.D ∧ blk (cf.ρ j) = some g) → ¬ c3.T g → ¬ cx.T g) : ∀ {t : Ty} {B : List Nat} {x : t.den} {cs : List Value} {ids : List (Option Nat)}, OwnE t c3.w B x cs → B.Nodup → LentO cf t cs ids → (∀ g, Ft t c3.w cs g → ¬ c3.T g) → (∀ g, FXo c3.w t cs ids j g → cx.X j g) → LendO t x ids j e → entRel cx j e
  | .rs e' t, B, x, cs, ids, hE, hn, ⟨y, o, h1, h2, h3, h4⟩, hO, hX, ⟨k1, k2⟩ => by
    rw [h2] at k1
    injection k1 with k1
    subst k1 k2 h1
    have hE0 := hE
    obtain ⟨v, inner, B', q1, q2, q3, q4, q5⟩ := hE
    injection q1 with q1 _
    subst q1
    have hF : ∀ g, g ∈ B → cx.X j g := fun g hg => hX g ⟨h2, (hE0.ft g).mpr hg⟩
    rw [q4, List.nodup_append] at hn
    refine mkRow_rel (inner := inner) (B := B') (by rw [hρ, ← h4.2, hw]; exact q3) (fun g hg => ?_) hn.2.1 (fun g hg => hF g (by rw [q4]; exact List.mem_append_right _ hg)) (by rw [hw]; exact q5)
    have hg0 := hg
    rw [hρ] at hg
    have hgB : g ∈ B := by rw [q4, h4.2, hg]; simp
    refine ⟨hT g ⟨j, h4.1, hg⟩ (hO g ((hE0.ft g).mpr hgB)), fun h9 => hn.2.2 g (by rw [h4.2, hg]; simp) g h9 rfl⟩
  | .pair a b, B, p, cs, ids, ⟨B0, B1, c0, c1, e1, e2, k0, k1⟩, hn, ⟨h1, h2⟩, hO, hX, hL => by
    have l0 := k0.length
    have t0 : cs.take a.sz = c0 := by rw [e2, List.take_left' l0]
    have t1 : cs.drop a.sz = c1 := by rw [e2, List.drop_left' l0]
    rw [e1, List.nodup_append] at hn
    rcases hL with hL | hL
    · exact LendO.rel hw hρ hT (by rw [t0]; exact k0) hn.1 h1 (fun g hg => hO g (.inl hg)) (fun g hg => hX g (.inl hg)) hL
    · exact LendO.rel hw hρ hT (by rw [t1]; exact k1) hn.2.1 h2 (fun g hg => hO g (.inr hg)) (fun g hg => hX g (.inr hg)) hL
  | .int _, _, _, _, _, _, _, _, _, _, h => h.elim
  | .bool, _, _, _, _, _, _, _, _, _, h => h.elim
  | .str, _, _, _, _, _, _, _, _, _, h => h.elim
theorem LendE.rel {cf c3 cx : Cx} {tR : Array Value} (hw : cx.w = c3.w) (hρ : cx.ρ = cf.ρ) (hI : cx.I = c3.I) (hT : ∀ g, (∃ j, j ∈ cf.D ∧ blk (cf.ρ j) = some g) → ¬ c3.T g → ¬ cx.T g) : ∀ {ms : List LK} {i : Nat} {x : sdens (num i ms)} {ys : List Value} {ids : List (Option Nat)} {j : Nat} {e : Ent},
    (∀ k y, ys[k]? = some y → tR.getD (i + k) undef = y) → LentM cf ms ys ids → ms.all LK.mut = true → SigRel c3 tR (num i ms) x → (∀ g, OBs c3.w tR (num i ms) g → ¬ c3.T g) → (∀ g, FX c3.w ms ys ids j g → cx.X j g) → LendE i ms x ids j e → entRel cx j e
  | [], _, _, _, _, _, _, _, _, _, _, _, _, h => h.elim
  | .c agg (.f _) :: ms, i, x, ys, ids, j, e, hy, hl, hm, hs, hO, hX, h => by simp [LK.mut] at hm
  | .c agg (.g _) :: ms, i, x, ys, ids, j, e, hy, hl, hm, hs, hO, hX, h => by simp [LK.mut] at hm
  | .c agg (.v want t) :: ms, i, x, y :: ys, o :: ids, j, e, hy, hl, hm, hs, hO, hX, h => by simp [LK.mut] at hm
  | .c agg (.o t) :: ms, i, x, y :: ys, ids, j, e, hy, hl, hm, hs, hO, hX, h => by
    have hy0 : tR.getD i undef = y := hy 0 y rfl
    rcases h with h | h
    · obtain ⟨⟨_, k1⟩, _, _⟩ := hs
      have k1 : CKsRel c3 [.o t] (x.1, ()) (tR.getD i undef).cells.toList := k1
      rw [hy0] at k1
      have hcl := k1.cells.1
      obtain ⟨⟨B, m1, m2⟩, _, _⟩ := k1
      have hcl : y.cells.toList.length = t.sz := by simpa [csz, CK.sz] using hcl
      have e1 : y.cells.toList.take t.sz = y.cells.toList := List.take_of_length_le (by omega)
      rw [e1] at m1
      refine LendO.rel hw hρ hT m1 m2 hl.2.1 (fun g hg => hO g (.inl ?_)) (fun g hg => hX g (.inl hg)) h
      show OBc c3.w [.o t] (tR.getD i undef).cells.toList g
      rw [hy0]
      refine .inl ?_
      rw [e1]; exact hg
    · exact LendE.rel hw hρ hI hT (ms := ms) (fun k z hk => by rw [show i + 1 + k = i + (k + 1) by omega]; exact hy (k + 1) z (by simpa using hk)) hl.2.2 (by simpa [LK.mut] using hm) hs.2.2 (fun g hg => hO g (.inr hg)) (fun g hg => hX g (.inr hg)) h
  | .c agg (.o t) :: ms, i, x, [], ids, j, e, hy, hl, hm, hs, hO, hX, h => by cases ids <;> exact hl.elim
  | .c agg (.r e' t) :: ms, i, x, y :: ys, none :: ids, j, e, hy, hl, hm, hs, hO, hX, h =>
    LendE.rel hw hρ hI hT (ms := ms) (fun k z hk => by rw [show i + 1 + k = i + (k + 1) by omega]; exact hy (k + 1) z (by simpa using hk)) hl.2.2 (by simpa [LK.mut] using hm) hs.2.2 (fun g hg => hO g (.inr hg)) (fun g hg => hX g (.inr hg)) h
  | .c agg (.r e' t) :: ms, i, x, y :: ys, some id :: ids, j, e, hy, hl, hm, hs, hO, hX, h => by
    rcases h with ⟨rfl, rfl⟩ | h
    · have hy0 : tR.getD i undef = y := hy 0 y rfl
      obtain ⟨h1, h2, _⟩ := hl.1
      obtain ⟨⟨_, k1⟩, _, _⟩ := hs
      have k1 : CKsRel c3 [.r e' t] (x.1, ()) (tR.getD i undef).cells.toList := k1
      rw [hy0] at k1
      have hone : y.oneCell' = true := hl.2.1
      rw [one_cells hone] at k1
      obtain ⟨⟨inner, m1, m2⟩, _, _, _⟩ := k1
      refine ⟨inner, by rw [hρ, ← h2, hw]; exact m1, fun g hg => ?_, ?_⟩
      · rw [hρ] at hg
        refine hT g ⟨j, h1, hg⟩ (hO g (.inl ?_))
        show OBc c3.w [.r e' t] (tR.getD i undef).cells.toList g
        rw [hy0, one_cells hone]
        exact .inl (by rw [h2]; exact hg)
      · exact rows_rel (S := c3.I) (c := cx) (fun k hk => by rw [hI]; exact hk) m1.1 (fun q z hz => by rw [hw]; exact m2 q z hz)
    · exact LendE.rel hw hρ hI hT (ms := ms) (fun k z hk => by rw [show i + 1 + k = i + (k + 1) by omega]; exact hy (k + 1) z (by simpa using hk)) hl.2.2 (by simpa [LK.mut] using hm) hs.2.2 (fun g hg => hO g (.inr hg)) (fun g hg => hX g (.inr hg)) h
  | .b t ks :: ms, i, x, y :: ys, none :: ids, j, e, hy, hl, hm, hs, hO, hX, h =>
    LendE.rel hw hρ hI hT (ms := ms) (fun k z hk => by rw [show i + 1 + k = i + (k + 1) by omega]; exact hy (k + 1) z (by simpa using hk)) hl.2.2 (by simpa [LK.mut] using hm) hs.2.2 (fun g hg => hO g (.inr hg)) (fun g hg => hX g (.inr hg)) h
  | .b t ks :: ms, i, x, y :: ys, some id :: ids, j, e, hy, hl, hm, hs, hO, hX, h => by
    rcases h with ⟨rfl, rfl⟩ | h
    · have hy0 : tR.getD i undef = y := hy 0 y rfl
      obtain ⟨h1, h2, _⟩ := hl.1
      obtain ⟨⟨gg, conc, e1, e2, e3, e4⟩, _, _⟩ := hs
      rw [hy0] at e1
      obtain ⟨q1, q2⟩ := e3.cells
      refine ⟨gg, conc, by rw [hρ, ← h2]; exact e1, hT gg ⟨j, h1, by rw [← h2, e1]; rfl⟩ (hO gg (.inl ⟨gg, conc, by rw [hy0]; exact e1, e2, .inl rfl⟩)), by rw [hw]; exact e2, ?_⟩
      rw [← q1]
      exact all2_dead _ q2
    · exact LendE.rel hw hρ hI hT (ms := ms) (fun k z hk => by rw [show i + 1 + k = i + (k + 1) by omega]; exact hy (k + 1) z (by simpa using hk)) hl.2.2 (by simpa [LK.mut] using hm) hs.2.2 (fun g hg => hO g (.inr hg)) (fun g hg => hX g (.inr hg)) h
  | .c agg (.v want t) :: ms, i, x, [], ids, j, e, hy, hl, hm, hs, hO, hX, h => by cases ids <;> exact hl.elim
  | .c agg (.v want t) :: ms, i, x, y :: ys, [], j, e, hy, hl, hm, hs, hO, hX, h => hl.elim
  | .c agg (.r e' t) :: ms, i, x, [], ids, j, e, hy, hl, hm, hs, hO, hX, h => by cases ids <;> exact hl.elim
  | .c agg (.r e' t) :: ms, i, x, y :: ys, [], j, e, hy, hl, hm, hs, hO, hX, h => hl.elim
  | .b t ks :: ms, i, x, [], ids, j, e, hy, hl, hm, hs, hO, hX, h => by cases ids <;> exact hl.elim
  | .b t ks :: ms, i, x, y :: ys, [], j, e, hy, hl, hm, hs, hO, hX, h => hl.elim
  | .t agg t :: ms, i, x, ys, ids, j, e, hy, hl, hm, hs, hO, hX, h => by cases ys <;> cases ids <;> exact hl.elim

theorem CKsRel.moveI {c c' : Cx} (hw : c'.w = c.w) (hI : ∀ k, c.I k → c'.I k) : ∀ {ks : List CK} {x : cdens ks} {cs : List Value}, ks.all CK.kept = true → CKsRel c ks x cs → CKsRel c' ks x cs
  | [], _, [], _, _ => trivial
  | [], _, _ :: _, _, h => h.elim
  | .v want t :: ks, x, cs, hk, ⟨h1, h2⟩ => by
    simp only [List.all_cons, CK.kept, Bool.and_eq_true] at hk
    obtain ⟨rfl, hk⟩ := hk
    exact ⟨h1.step (by rw [hw]; exact agree.refl _ _) hI, CKsRel.moveI hw hI hk h2⟩
  | .f k :: ks, x, y :: rest, hk, ⟨h1, h4⟩ => by
    simp only [List.all_cons, Bool.and_eq_true, CK.kept] at hk
    refine ⟨FK.rel_step (by rw [hw]; exact agree.refl _ _) (fun g hg => ?_) h1, CKsRel.moveI hw hI hk.2 h4⟩
    rw [hk.1] at hg ⊢
    exact hI g hg
  | .g f :: ks, x, y :: rest, hk, ⟨h1, h4⟩ => ⟨h1, CKsRel.moveI hw hI (by simpa [CK.kept] using hk) h4⟩
  | .f _ :: _, _, [], _, h => h.elim
  | .g _ :: _, _, [], _, h => h.elim
  | .r e t :: ks, x, y :: rest, hk, ⟨⟨inner, h1, h2⟩, h3, h4, h5⟩ => ⟨⟨inner, by rw [hw]; exact h1, fun j z hz => (h2 j z hz).step (by rw [hw]; exact agree.refl _ _) hI⟩, h3, by rw [hw]; exact h4, CKsRel.moveI hw hI (by simpa [CK.kept] using hk) h5⟩
  | .r _ _ :: _, _, [], _, h => h.elim
  | .o t :: ks, x, cs, hk, ⟨h1, h2, h3⟩ => ⟨by rw [hw]; exact h1, by rw [hw]; exact h2, CKsRel.moveI hw hI (by simpa [CK.kept] using hk) h3⟩
theorem SigRel.moveI {c c' : Cx} {tmps : Array Value} (hw : c'.w = c.w) (hI : ∀ k, c.I k → c'.I k) : ∀ {ps : List LK} {i : Nat} {x : sdens (num i ps)}, ps.all LK.kept = true → SigRel c tmps (num i ps) x → SigRel c' tmps (num i ps) x
  | [], _, _, _, _ => trivial
  | k :: ps, i, x, hk, ⟨h1, h2, h3⟩ => by
    simp only [List.all_cons, Bool.and_eq_true] at hk
    refine ⟨?_, by rw [hw]; exact h2, SigRel.moveI hw hI hk.2 h3⟩
    cases k with
    | c agg k => exact ⟨h1.1, h1.2.moveI hw hI (by simpa [LK.kept] using hk.1)⟩
    | t agg ty => exact ⟨h1.1, h1.2.moveI hw hI rfl⟩
    | b t ks =>
      obtain ⟨gg, conc, e1, e2, e3, e4⟩ := h1
      exact ⟨gg, conc, e1, by rw [hw]; exact e2, e3.moveI hw hI (by simpa [LK.kept] using hk.1), by rw [hw]; exact e4⟩

theorem keep_kept : ∀ ks : List CK, (keepCs ks).all CK.kept = true
  | [] => rfl
  | .v _ _ :: ks => by simp [keepCs, CK.kept, keep_kept ks]
  | .r _ _ :: ks => by simp [keepCs, CK.kept, keep_kept ks]
  | .o _ :: ks => by simp [keepCs, CK.kept, keep_kept ks]
  | .f k :: ks => by cases k <;> simp [keepCs, CK.kept, FK.want, FK.keep, keep_kept ks]
  | .g _ :: ks => by simp [keepCs, CK.kept, keep_kept ks]
theorem muts_kept : ∀ ps : List LK, (muts ps).all LK.kept = true ∧ (muts ps).all LK.mut = true
  | [] => ⟨rfl, rfl⟩
  | .c _ (.v _ _) :: ps => muts_kept ps
  | .c _ (.f _) :: ps => muts_kept ps
  | .c _ (.g _) :: ps => muts_kept ps
  | .c _ (.r _ _) :: ps => by simp [muts, LK.kept, CK.kept, LK.mut, muts_kept ps]
  | .c _ (.o _) :: ps => by simp [muts, LK.kept, CK.kept, LK.mut, muts_kept ps]
  | .b _ ks :: ps => by simp [muts, LK.kept, keep_kept, LK.mut, muts_kept ps]
  | .t _ _ :: ps => muts_kept ps

/-- The rows in blocks that are given back. -/
def NB (w : World) (tR : Array Value) : List (Nat × LK) → Nat → Prop
  | [], _ => False
  | (s, k) :: sig, g => natBlk k (tR.getD s undef) w g ∨ NB w tR sig g
def GB (w : World) (tR : Array Value) : Nat → List LK → List LK → Nat → Prop
  | i, [], ms, g => NB w tR (num i ms) g
  | i, k :: rs, ms, g => OBe w k (tR.getD i undef) g ∨ GB w tR (i + 1) rs ms g
theorem nat_OBe {k : LK} {y : Value} {w : World} {g : Nat} (h : natBlk k y w g) : OBe w k y g := by
  cases k with
  | c _ _ => exact h.elim
  | t _ _ => exact h.elim
  | b t ks => obtain ⟨gg, conc, e1, e2, e3⟩ := h; exact ⟨gg, conc, e1, e2, .inr e3⟩
theorem NB_OBs {w : World} {tR : Array Value} : ∀ {sig : List (Nat × LK)} {g : Nat}, NB w tR sig g → OBs w tR sig g
  | [], _, h => h.elim
  | (s, k) :: sig, g, h => by
    rcases h with h | h
    · exact .inl (nat_OBe h)
    · exact .inr (NB_OBs h)
theorem GB_OBs {w : World} {tR : Array Value} : ∀ {rs ms : List LK} {i g : Nat}, GB w tR i rs ms g → OBs w tR (num i (rs ++ ms)) g
  | [], ms, i, g, h => NB_OBs h
  | k :: rs, ms, i, g, h => by
    rcases h with h | h
    · exact .inl h
    · exact .inr (GB_OBs h)

theorem LentO.move {c c' : Cx} (hl : ∀ l y, leafRel c l y → leafRel c' l y) : ∀ {t : Ty} {cs : List Value} {ids : List (Option Nat)}, LentO c t cs ids → LentO c' t cs ids
  | .rs e t, cs, ids, ⟨y, o, h1, h2, h3, h4⟩ => by
    refine ⟨y, o, h1, h2, h3, ?_⟩
    cases o with
    | none => exact h4
    | some id =>
      obtain ⟨k1, k2, _⟩ := hl (.own id) y ⟨h4.1, h4.2, h3⟩
      exact ⟨k1, k2⟩
  | .pair a b, cs, ids, ⟨h1, h2⟩ => ⟨h1.move hl, h2.move hl⟩
  | .int _, _, _, _ => trivial
  | .bool, _, _, _ => trivial
  | .str, _, _, _ => trivial
theorem LentM.move {c c' : Cx} (hl : ∀ l y, leafRel c l y → leafRel c' l y) : ∀ {ms : List LK} {ys : List Value} {ids : List (Option Nat)}, LentM c ms ys ids → LentM c' ms ys ids
  | [], [], [], _ => trivial
  | .c _ (.r _ _) :: ms, y :: ys, o :: ids, ⟨h1, h2, h3⟩ => by
    refine ⟨?_, h2, LentM.move hl h3⟩
    cases o with
    | none => exact h1
    | some id =>
      obtain ⟨k1, k2, _⟩ := hl (.own id) y ⟨h1.1, h1.2.1, h2⟩
      exact ⟨k1, k2, h1.2.2⟩
  | .b _ _ :: ms, y :: ys, o :: ids, ⟨h1, h2, h3⟩ => by
    refine ⟨?_, h2, LentM.move hl h3⟩
    cases o with
    | none => exact h1
    | some id =>
      obtain ⟨k1, k2, _⟩ := hl (.own id) y ⟨h1.1, h1.2.1, h2⟩
      exact ⟨k1, k2, h1.2.2⟩
  | .c _ (.o _) :: ms, y :: ys, ids, ⟨h1, h2, h3⟩ => ⟨h1, h2.move hl, LentM.move hl h3⟩
  | .c _ (.f _) :: _, ys, ids, h => by cases ys <;> cases ids <;> exact h.elim
  | .t _ _ :: _, ys, ids, h => by cases ys <;> cases ids <;> exact h.elim
  | .c _ (.g _) :: _, ys, ids, h => by cases ys <;> cases ids <;> exact h.elim
  | .c _ (.v _ _) :: _, ys, ids, h => by cases ys <;> cases ids <;> exact h.elim
  | [], _ :: _, ids, h => by cases ids <;> exact h.elim
  | [], [], _ :: _, h => h.elim
  | .c _ (.r _ _) :: _, [], ids, h => by cases ids <;> exact h.elim
  | .b _ _ :: _, [], ids, h => by cases ids <;> exact h.elim
  | .c _ (.o _) :: _, [], ids, h => by cases ids <;> exact h.elim
  | .c _ (.r _ _) :: _, _ :: _, [], h => h.elim
  | .b _ _ :: _, _ :: _, [], h => h.elim

theorem notT_D {tmps : Array Value} (hr : Rel c st tmps) {id g : Nat} (hi : id ∈ c.D) (hb : blk (c.ρ id) = some g) : ¬ c.T g := by
  rw [hr.s.ids] at hi
  obtain ⟨e, he⟩ := mem_ids hi
  exact (hr.s.ent id e he).notT hb

theorem backSt_some {tmps tR : Array Value} : ∀ {ms : List LK} {i : Nat} {x : sdens (num i ms)} {ys : List Value} {ids : List (Option Nat)} {st : St} {c : Cx}, ms.all LK.mut = true → Rel c st tmps → (∀ k y, ys[k]? = some y → tR.getD (i + k) undef = y) → LentM c ms ys ids → SigRel c tR (num i ms) x →
    (∀ g, NB c.w tR (num i ms) g → ¬ c.T g ∧ ∀ j, j ∈ c.D → ¬ c.ow j g) →
    ∃ c', Rel c' (backSt i ms x ids st) tmps ∧ (Step c c' ∧ c'.T = c.T) ∧ c'.w = c.w ∧ (∀ l y, leafRel c l y → leafRel c' l y) ∧ ∀ j, j ∈ c'.D → (j ∈ c.D ∧ c'.ρ j = c.ρ j ∧ ∀ g, c'.ow j g → c.ow j g) ∨ ∀ g, c'.ow j g → NB c.w tR (num i ms) g
  | [], i, x, ys, ids, st, c, _, hr, _, _, _, _ => ⟨c, hr, ⟨Step.refl c, rfl⟩, rfl, fun _ _ h => h, fun j hj => .inl ⟨hj, rfl, fun _ h => h⟩⟩
  | .c agg (.v want t) :: ms, i, x, ys, ids, st, c, hm, hr, hy, hl, hs, hN => by simp [LK.mut] at hm
  | .t agg t :: ms, i, x, ys, ids, st, c, hm, hr, hy, hl, hs, hN => by cases ys <;> cases ids <;> exact hl.elim
  | .c agg (.f _) :: ms, i, x, ys, ids, st, c, hm, hr, hy, hl, hs, hN => by simp [LK.mut] at hm
  | .c agg (.g _) :: ms, i, x, ys, ids, st, c, hm, hr, hy, hl, hs, hN => by simp [LK.mut] at hm
  | .c agg (.r e t) :: ms, i, x, y :: ys, o :: ids, st, c, hm, hr, hy, hl, hs, hN => by
    obtain ⟨c', k1, k2, k3, k4, k5⟩ := backSt_some (ms := ms) (i := i + 1) (x := x.2) (by simpa [LK.mut] using hm) hr (fun k z hk => by rw [show i + 1 + k = i + (k + 1) by omega]; exact hy (k + 1) z (by simpa using hk)) hl.2.2 hs.2.2 (fun g hg => hN g (.inr hg))
    exact ⟨c', k1, k2, k3, k4, fun j hj => (k5 j hj).imp (fun h => h) fun h g hg => .inr (h g hg)⟩
  | .c agg (.o t) :: ms, i, x, [], ids, st, c, hm, hr, hy, hl, hs, hN => by cases ids <;> exact hl.elim
  | .c agg (.o t) :: ms, i, x, y :: ys, ids, st, c, hm, hr, hy, hl, hs, hN => by
    obtain ⟨c', k1, k2, k3, k4, k5⟩ := backSt_some (ms := ms) (i := i + 1) (x := x.2) (by simpa [LK.mut] using hm) hr (fun k z hk => by rw [show i + 1 + k = i + (k + 1) by omega]; exact hy (k + 1) z (by simpa using hk)) hl.2.2 hs.2.2 (fun g hg => hN g (.inr hg))
    exact ⟨c', k1, k2, k3, k4, fun j hj => (k5 j hj).imp (fun h => h) fun h g hg => .inr (h g hg)⟩
  | .b t ks :: ms, i, x, y :: ys, none :: ids, st, c, hm, hr, hy, hl, hs, hN => by
    obtain ⟨c', k1, k2, k3, k4, k5⟩ := backSt_some (ms := ms) (i := i + 1) (x := x.2) (by simpa [LK.mut] using hm) hr (fun k z hk => by rw [show i + 1 + k = i + (k + 1) by omega]; exact hy (k + 1) z (by simpa using hk)) hl.2.2 hs.2.2 (fun g hg => hN g (.inr hg))
    exact ⟨c', k1, k2, k3, k4, fun j hj => (k5 j hj).imp (fun h => h) fun h g hg => .inr (h g hg)⟩
  | .b t ks :: ms, i, x, y :: ys, some id :: ids, st, c, hm, hr, hy, hl, hs, hN => by
    have hy0 : tR.getD i undef = y := hy 0 y rfl
    obtain ⟨⟨gg, conc, e1, e2, e3, e4⟩, hd, hs2⟩ := hs
    rw [hy0] at e1
    have hidρ : c.ρ id = .pointer (some ⟨gg, 0, none⟩) := by rw [← hl.1.2.1]; exact e1
    obtain ⟨c1, k1, k2, k3, k4, k5, k6, k7, k8⟩ := putCKs_some (st := st) hr e3 (fun g hg => hN g (.inl ⟨gg, conc, by rw [hy0]; exact e1, e2, hg⟩))
    obtain ⟨p1, g', p2, p3⟩ := k7 (.ptr id 0) y ⟨hl.1.1, gg, hidρ, by rw [hl.1.2.1]; exact hidρ⟩
    have hgg : g' = gg := by rw [e1] at p3; injection p3 with p3; injection p3 with p3; injection p3 with p3 _ _; exact p3.symm
    rw [hgg] at p2
    have hset := k1.setEnt (id := id) (e := .box t (putCKs ks x.1 st).1) ⟨gg, conc, p2, notT_D k1 p1 (by rw [p2]; rfl), by rw [k3]; exact e2, k6⟩
    obtain ⟨c', q1, q2, q3, q4, q5⟩ := backSt_some (ms := ms) (i := i + 1) (x := x.2) (by simpa [LK.mut] using hm) hset (fun k z hk => by rw [show i + 1 + k = i + (k + 1) by omega]; exact hy (k + 1) z (by simpa using hk)) (hl.2.2.move k7)
      (hs2.move k3 (by rw [k5]; exact fun _ h => h) (by rw [k4]; exact fun _ h => h)) (fun g hg => by
        rw [k3] at hg
        refine ⟨by rw [k4]; exact (hN g (.inr hg)).1, fun j hj hb => ?_⟩
        rcases k8 j hj with ⟨h8, _, h9⟩ | h8
        · exact (hN g (.inr hg)).2 j h8 (h9 g hb)
        · exact hd g ⟨gg, conc, by rw [hy0]; exact e1, e2, .inr (h8 g hb)⟩ (NB_OBs hg))
    refine ⟨c', q1, ⟨k2.trans q2.1, q2.2.trans k4⟩, q3.trans k3, fun l z h => q4 _ _ (k7 _ _ h), fun j hj => ?_⟩
    rcases q5 j hj with ⟨h8, h9, h90⟩ | h8
    · rcases k8 j h8 with ⟨m8, m9, m90⟩ | m8
      · exact .inl ⟨m8, h9.trans m9, fun g hg => m90 g (h90 g hg)⟩
      · exact .inr fun g hg => .inl ⟨gg, conc, by rw [hy0]; exact e1, e2, m8 g (h90 g hg)⟩
    · refine .inr fun g hg => .inr ?_
      rw [← k3]
      exact h8 g hg
  | .c agg (.r e t) :: ms, i, x, [], ids, st, c, hm, hr, hy, hl, hs, hN => by cases ids <;> exact hl.elim
  | .c agg (.r e t) :: ms, i, x, y :: ys, [], st, c, hm, hr, hy, hl, hs, hN => hl.elim
  | .b t ks :: ms, i, x, [], ids, st, c, hm, hr, hy, hl, hs, hN => by cases ids <;> exact hl.elim
  | .b t ks :: ms, i, x, y :: ys, [], st, c, hm, hr, hy, hl, hs, hN => hl.elim

theorem giveAll_some {tmps tR : Array Value} : ∀ {rs ms : List LK} {i : Nat} {x : sdens (num i (rs ++ ms))} {zs ys : List Value} {ids : List (Option Nat)} {st : St} {c : Cx}, ms.all LK.mut = true → zs.length = rs.length → Rel c st tmps → (∀ k y, (zs ++ ys)[k]? = some y → tR.getD (i + k) undef = y) → LentM c ms ys ids → SigRel c tR (num i (rs ++ ms)) x →
    (∀ g, GB c.w tR i rs ms g → ¬ c.T g ∧ ∀ j, j ∈ c.D → ¬ c.ow j g) →
    ∃ c', Rel c' (giveAll i rs ms x ids st).2 tmps ∧ (Step c c' ∧ c'.T = c.T) ∧ c'.w = c.w ∧ All2 (v1Rel c') (giveAll i rs ms x ids st).1 zs ∧ (∀ l y, leafRel c l y → leafRel c' l y) ∧ ∀ j, j ∈ c'.D → (j ∈ c.D ∧ c'.ρ j = c.ρ j ∧ ∀ g, c'.ow j g → c.ow j g) ∨ ∀ g, c'.ow j g → GB c.w tR i rs ms g
  | [], ms, i, x, zs, ys, ids, st, c, hm, hz, hr, hy, hl, hs, hG => by
    cases zs with
    | cons _ _ => cases hz
    | nil =>
      obtain ⟨c', k1, k2, k3, k4, k5⟩ := backSt_some hm hr hy hl hs hG
      exact ⟨c', k1, k2, k3, trivial, k4, k5⟩
  | .c agg k :: rs, ms, i, x, [], ys, ids, st, c, hm, hz, hr, hy, hl, hs, hG => by cases hz
  | .b t ks :: rs, ms, i, x, [], ys, ids, st, c, hm, hz, hr, hy, hl, hs, hG => by cases hz
  | .t agg ty :: rs, ms, i, x, [], ys, ids, st, c, hm, hz, hr, hy, hl, hs, hG => by cases hz
  | .c agg k :: rs, ms, i, x, z :: zs, ys, ids, st, c, hm, hz, hr, hy, hl, ⟨⟨h1, h2⟩, h3, h4⟩, hG => by
    have hz0 : tR.getD i undef = z := hy 0 z rfl
    rw [hz0] at h1 h2 h3
    obtain ⟨c1, k1, k2, k3, k4, k5, k6, k7, k8⟩ := putCKs_some (st := st) hr h2 (fun g hg => hG g (.inl (by rw [hz0]; exact hg)))
    obtain ⟨c', q1, q2, q3, q4, q5, q6⟩ := giveAll_some (rs := rs) (i := i + 1) (x := x.2) (zs := zs) hm (by simpa using hz) k1 (fun k y hk => by rw [show i + 1 + k = i + (k + 1) by omega]; exact hy (k + 1) y (by simpa using hk)) (hl.move k7)
      (h4.move k3 (by rw [k5]; exact fun _ h => h) (by rw [k4]; exact fun _ h => h)) (fun g hg => by
        rw [k3] at hg
        refine ⟨by rw [k4]; exact (hG g (.inr hg)).1, fun j hj hb => ?_⟩
        rcases k8 j hj with ⟨h8, _, h9⟩ | h8
        · exact (hG g (.inr hg)).2 j h8 (h9 g hb)
        · exact h3 g (h8 g hb) (GB_OBs hg))
    refine ⟨c', q1, ⟨k2.trans q2.1, q2.2.trans k4⟩, q3.trans k3, ⟨v1Rel.imp q5 (ofLv_rel k6 h1), q4⟩, fun l y h => q5 _ _ (k7 _ _ h), fun j hj => ?_⟩
    rcases q6 j hj with ⟨h8, h9, h90⟩ | h8
    · rcases k8 j h8 with ⟨m8, m9, m90⟩ | m8
      · exact .inl ⟨m8, h9.trans m9, fun g hg => m90 g (h90 g hg)⟩
      · refine .inr fun g hg => .inl ?_
        rw [hz0]
        exact m8 g (h90 g hg)
    · refine .inr fun g hg => .inr ?_
      rw [← k3]
      exact h8 g hg
  | .t agg ty :: rs, ms, i, x, z :: zs, ys, ids, st, c, hm, hz, hr, hy, hl, ⟨⟨h1, h2⟩, h3, h4⟩, hG => by
    have hz0 : tR.getD i undef = z := hy 0 z rfl
    rw [hz0] at h1 h2 h3
    obtain ⟨c1, k1, k2, k3, k4, k5, k6, k7, k8⟩ := putCKs_some (st := st) hr h2 (fun g hg => hG g (.inl (by rw [hz0]; exact hg)))
    obtain ⟨c', q1, q2, q3, q4, q5, q6⟩ := giveAll_some (rs := rs) (i := i + 1) (x := x.2) (zs := zs) hm (by simpa using hz) k1 (fun k y hk => by rw [show i + 1 + k = i + (k + 1) by omega]; exact hy (k + 1) y (by simpa using hk)) (hl.move k7)
      (h4.move k3 (by rw [k5]; exact fun _ h => h) (by rw [k4]; exact fun _ h => h)) (fun g hg => by
        rw [k3] at hg
        refine ⟨by rw [k4]; exact (hG g (.inr hg)).1, fun j hj hb => ?_⟩
        rcases k8 j hj with ⟨h8, _, h9⟩ | h8
        · exact (hG g (.inr hg)).2 j h8 (h9 g hb)
        · exact h3 g (h8 g hb) (GB_OBs hg))
    refine ⟨c', q1, ⟨k2.trans q2.1, q2.2.trans k4⟩, q3.trans k3, ⟨v1Rel.imp q5 (ofLv_rel k6 h1), q4⟩, fun l y h => q5 _ _ (k7 _ _ h), fun j hj => ?_⟩
    rcases q6 j hj with ⟨h8, h9, h90⟩ | h8
    · rcases k8 j h8 with ⟨m8, m9, m90⟩ | m8
      · exact .inl ⟨m8, h9.trans m9, fun g hg => m90 g (h90 g hg)⟩
      · refine .inr fun g hg => .inl ?_
        rw [hz0]
        exact m8 g (h90 g hg)
    · refine .inr fun g hg => .inr ?_
      rw [← k3]
      exact h8 g hg
  | .b t ks :: rs, ms, i, x, z :: zs, ys, ids, st, c, hm, hz, hr, hy, hl, ⟨⟨gg, conc, e1, e2, e3, e4⟩, h3, h4⟩, hG => by
    have hz0 : tR.getD i undef = z := hy 0 z rfl
    rw [hz0] at e1
    have hOB : ∀ g, OBc c.w ks conc.toList g → OBe c.w (.b t ks) (tR.getD i undef) g := fun g hg => ⟨gg, conc, by rw [hz0]; exact e1, e2, .inr hg⟩
    have hOg : OBe c.w (.b t ks) (tR.getD i undef) gg := ⟨gg, conc, by rw [hz0]; exact e1, e2, .inl rfl⟩
    obtain ⟨c1, k1, k2, k3, k4, k5, k6, k7, k8⟩ := putCKs_some (st := st) hr e3 (fun g hg => hG g (.inl (hOB g hg)))
    have hgg := hG gg (.inl hOg)
    have hl1 := leaf_grow (st := (putCKs ks x.1 st).2) (w1 := c1.w) (y0 := z) k1.s (fun _ _ => rfl)
    have hρ : (c1.grow c1.w (fresh (putCKs ks x.1 st).2.store) z).ρ (fresh (putCKs ks x.1 st).2.store) = z := if_pos rfl
    have hρo : ∀ j, j ∈ c1.D → (c1.grow c1.w (fresh (putCKs ks x.1 st).2.store) z).ρ j = c1.ρ j := fun j hj => if_neg (fresh_not j (by rw [← k1.s.ids]; exact hj))
    obtain ⟨p1, p2⟩ := k1.growA (w1 := c1.w) (y0 := z) (e := .box t (putCKs ks x.1 st).1) (fun _ _ => rfl) (Below.refl _ _) (fun g hg i hi hb => by
      rw [e1] at hg
      have hg' : gg = g := by simpa [blk] using hg
      subst hg'
      rcases k8 i hi with ⟨h8, _, h9⟩ | h8
      · exact hgg.2 i h8 (h9 gg hb)
      · exact e4 (h8 gg hb))
      ⟨gg, conc, by rw [hρ]; exact e1, by show ¬ c1.T gg; rw [k4]; exact hgg.1, by show c1.w.heap[gg]? = _; rw [k3]; exact e2, k6.mono hl1⟩
    obtain ⟨c', q1, q2, q3, q4, q5, q6⟩ := giveAll_some (rs := rs) (i := i + 1) (x := x.2) (zs := zs) (c := c1.grow c1.w (fresh (putCKs ks x.1 st).2.store) z) hm (by simpa using hz) p1 (fun k y hk => by rw [show i + 1 + k = i + (k + 1) by omega]; exact hy (k + 1) y (by simpa using hk)) ((hl.move k7).move hl1)
      (h4.move (c := c) (c' := c1.grow c1.w (fresh (putCKs ks x.1 st).2.store) z) k3 (fun k hk => by show c1.I k; rw [k5]; exact hk) (fun k hk => by show c1.T k; rw [k4]; exact hk)) (fun g hg => by
        have hg : GB c.w tR (i + 1) rs ms g := by rw [← k3]; exact hg
        refine ⟨by show ¬ c1.T g; rw [k4]; exact (hG g (.inr hg)).1, fun j hj hb => ?_⟩
        rcases List.mem_append.mp hj with hj | hj
        · have hb := grow_ow (fresh_not j (by rw [← k1.s.ids]; exact hj)) hb
          rcases k8 j hj with ⟨h8, _, h9⟩ | h8
          · exact (hG g (.inr hg)).2 j h8 (h9 g hb)
          · exact h3 g (hOB g (h8 g hb)) (GB_OBs hg)
        · rw [List.mem_singleton] at hj
          rw [hj] at hb
          have hb := grow_ow0 hb
          rw [e1] at hb
          have hb' : gg = g := by simpa [blk] using hb
          subst hb'
          exact h3 gg hOg (GB_OBs hg))
    refine ⟨c', q1, ⟨(k2.trans p2).trans q2.1, q2.2.trans k4⟩, q3.trans k3, ⟨q5 (.ptr (fresh (putCKs ks x.1 st).2.store) 0) z ⟨List.mem_append_right _ (List.mem_singleton.mpr rfl), gg, by rw [hρ]; exact e1, e1⟩, q4⟩, fun l y h => q5 _ _ (hl1 _ _ (k7 _ _ h)), fun j hj => ?_⟩
    rcases q6 j hj with ⟨h8, h9, h90⟩ | h8
    · rcases List.mem_append.mp h8 with h8 | h8
      · rw [hρo j h8] at h9
        have hgo : ∀ g, c'.ow j g → c1.ow j g := fun g hg => grow_ow (fresh_not j (by rw [← k1.s.ids]; exact h8)) (h90 g hg)
        rcases k8 j h8 with ⟨m8, m9, m90⟩ | m8
        · exact .inl ⟨m8, h9.trans m9, fun g hg => m90 g (hgo g hg)⟩
        · exact .inr fun g hg => .inl (hOB g (m8 g (hgo g hg)))
      · rw [List.mem_singleton] at h8
        refine .inr fun g hg => .inl ?_
        have hg := h90 g hg
        rw [h8] at hg
        have hg := grow_ow0 hg
        rw [e1] at hg
        have hb' : gg = g := by simpa [blk] using hg
        rw [← hb']
        exact hOg
    · refine .inr fun g hg => .inr ?_
      have := h8 g hg
      rw [← k3]
      exact this

/-- What lent ones own is among what is given back; and each its own. -/
theorem FX.main {c3 : Cx} {tR : Array Value} {j g : Nat} : ∀ {ms : List LK} {i : Nat} {x : sdens (num i ms)} {ys : List Value} {ids : List (Option Nat)}, (∀ k y, ys[k]? = some y → tR.getD (i + k) undef = y) → (∀ y, y ∈ ys → (∃ id : Nat, True) → True) → SigRel c3 tR (num i ms) x → FX c3.w ms ys ids j g →
    OBs c3.w tR (num i ms) g ∧ ¬ NB c3.w tR (num i ms) g ∧ some j ∈ ids
  | [], i, x, ys, ids, hy, _, hs, h => by cases ys <;> cases ids <;> exact h.elim
  | .c agg (.f _) :: ms, i, x, ys, ids, hy, _, hs, h => by cases ys <;> cases ids <;> exact h.elim
  | .t agg t :: ms, i, x, ys, ids, hy, _, hs, h => by cases ys <;> cases ids <;> exact h.elim
  | .c agg (.g _) :: ms, i, x, ys, ids, hy, _, hs, h => by cases ys <;> cases ids <;> exact h.elim
  | .c agg (.v _ _) :: ms, i, x, ys, ids, hy, _, hs, h => by cases ys <;> cases ids <;> exact h.elim
  | .c agg (.r e t) :: ms, i, x, [], ids, hy, _, hs, h => by cases ids <;> exact h.elim
  | .c agg (.r e t) :: ms, i, x, y :: ys, [], hy, _, hs, h => h.elim
  | .b t ks :: ms, i, x, [], ids, hy, _, hs, h => by cases ids <;> exact h.elim
  | .b t ks :: ms, i, x, y :: ys, [], hy, _, hs, h => h.elim
  | .c agg (.o t) :: ms, i, x, [], ids, hy, _, hs, h => by cases ids <;> exact h.elim
  | .c agg (.o t) :: ms, i, x, y :: ys, ids, hy, hh, hs, h => by
    have hy0 : tR.getD i undef = y := hy 0 y rfl
    obtain ⟨h1, h2, h3⟩ := hs
    rcases h with h | h
    · have k1 : CKsRel c3 [.o t] (x.1, ()) (tR.getD i undef).cells.toList := h1.2
      rw [hy0] at k1
      have hcl : y.cells.toList.length = t.sz := by simpa [csz, CK.sz] using k1.cells.1
      have hOB : OBe c3.w (.c agg (.o t)) (tR.getD i undef) g := by
        show OBc c3.w [.o t] (tR.getD i undef).cells.toList g
        rw [hy0]
        refine .inl ?_
        rw [List.take_of_length_le (by omega)]
        exact h.ft
      refine ⟨.inl hOB, fun h9 => ?_, List.mem_of_mem_take h.mem⟩
      rcases h9 with h9 | h9
      · exact h9.elim
      · exact h2 g hOB (NB_OBs h9)
    · obtain ⟨k1, k2, k3⟩ := FX.main (ms := ms) (fun k z hk => by rw [show i + 1 + k = i + (k + 1) by omega]; exact hy (k + 1) z (by simpa using hk)) (fun _ _ _ => trivial) h3 h
      refine ⟨.inr k1, fun h9 => ?_, List.mem_of_mem_drop k3⟩
      rcases h9 with h9 | h9
      · exact h9.elim
      · exact k2 h9
  | .c agg (.r e t) :: ms, i, x, y :: ys, o :: ids, hy, hh, hs, h => by
    have hy0 : tR.getD i undef = y := hy 0 y rfl
    obtain ⟨h1, h2, h3⟩ := hs
    rcases h with ⟨rfl, h⟩ | h
    · have k1 : CKsRel c3 [.r e t] (x.1, ()) (tR.getD i undef).cells.toList := h1.2
      have hOB : OBe c3.w (.c agg (.r e t)) (tR.getD i undef) g := by
        show OBc c3.w [.r e t] (tR.getD i undef).cells.toList g
        rw [hy0]
        rw [hy0] at k1
        have hone : y.oneCell' = true := by
          cases y <;> first | rfl | cases h
        rw [one_cells hone]
        exact .inl h
      refine ⟨.inl hOB, fun h9 => ?_, by simp⟩
      rcases h9 with h9 | h9
      · exact h9.elim
      · exact h2 g hOB (NB_OBs h9)
    · obtain ⟨k1, k2, k3⟩ := FX.main (ms := ms) (fun k z hk => by rw [show i + 1 + k = i + (k + 1) by omega]; exact hy (k + 1) z (by simpa using hk)) (fun _ _ _ => trivial) h3 h
      refine ⟨.inr k1, fun h9 => ?_, by simp [k3]⟩
      rcases h9 with h9 | h9
      · exact h9.elim
      · exact k2 h9
  | .b t ks :: ms, i, x, y :: ys, o :: ids, hy, hh, hs, h => by
    have hy0 : tR.getD i undef = y := hy 0 y rfl
    obtain ⟨h1, h2, h3⟩ := hs
    have h10 := h1
    obtain ⟨gg, conc, e1, e2, e3, e4⟩ := h1
    rcases h with ⟨rfl, h⟩ | h
    · rw [hy0] at e1
      have hgg : g = gg := by rw [e1] at h; injection h with h; exact h.symm
      have hOB : OBe c3.w (.b t ks) (tR.getD i undef) g := ⟨gg, conc, by rw [hy0]; exact e1, e2, .inl hgg⟩
      refine ⟨.inl hOB, fun h9 => ?_, by simp⟩
      rcases h9 with h9 | h9
      · obtain ⟨gg2, conc2, f1, f2, f3⟩ := h9
        rw [hy0, e1] at f1
        injection f1 with f1
        injection f1 with f1
        injection f1 with f1 _ _
        subst f1
        rw [e2] at f2
        injection f2 with f2
        injection f2 with f2 _ _
        subst f2
        rw [hgg] at f3
        exact e4 f3
      · exact h2 g hOB (NB_OBs h9)
    · obtain ⟨k1, k2, k3⟩ := FX.main (ms := ms) (fun k z hk => by rw [show i + 1 + k = i + (k + 1) by omega]; exact hy (k + 1) z (by simpa using hk)) (fun _ _ _ => trivial) h3 h
      refine ⟨.inr k1, fun h9 => ?_, by simp [k3]⟩
      rcases h9 with h9 | h9
      · exact h2 g (nat_OBe h9) k1
      · exact k2 h9

theorem FX.apart {c3 : Cx} {tR : Array Value} {j j' g : Nat} : ∀ {ms : List LK} {i : Nat} {x : sdens (num i ms)} {ys : List Value} {ids : List (Option Nat)}, (∀ k y, ys[k]? = some y → tR.getD (i + k) undef = y) → SigRel c3 tR (num i ms) x → FX c3.w ms ys ids j g → FX c3.w ms ys ids j' g → j = j'
  | [], i, x, ys, ids, hy, hs, h, _ => by cases ys <;> cases ids <;> exact h.elim
  | .c agg (.f _) :: ms, i, x, ys, ids, hy, hs, h, _ => by cases ys <;> cases ids <;> exact h.elim
  | .c agg (.g _) :: ms, i, x, ys, ids, hy, hs, h, _ => by cases ys <;> cases ids <;> exact h.elim
  | .c agg (.v _ _) :: ms, i, x, ys, ids, hy, hs, h, _ => by cases ys <;> cases ids <;> exact h.elim
  | k :: ms, i, x, [], ids, hy, hs, h, _ => by
    cases k with
    | c agg k => cases k <;> cases ids <;> exact h.elim
    | b t ks => cases ids <;> exact h.elim
    | t agg ty => cases ids <;> exact h.elim
  | .c agg (.o t) :: ms, i, x, y :: ys, ids, hy, hs, h, h' => by
    have hy0 : tR.getD i undef = y := hy 0 y rfl
    obtain ⟨h1, h2, h3⟩ := hs
    have k1 : CKsRel c3 [.o t] (x.1, ()) (tR.getD i undef).cells.toList := h1.2
    rw [hy0] at k1
    have hcl : y.cells.toList.length = t.sz := by simpa [csz, CK.sz] using k1.cells.1
    have e1 : y.cells.toList.take t.sz = y.cells.toList := List.take_of_length_le (by omega)
    obtain ⟨⟨B, m1, m2⟩, _, _⟩ := k1
    rw [e1] at m1
    have hOB : ∀ q, FXo c3.w t y.cells.toList ids q g → OBe c3.w (.c agg (.o t)) (tR.getD i undef) g := fun q hq => by
      show OBc c3.w [.o t] (tR.getD i undef).cells.toList g
      rw [hy0]
      refine .inl ?_
      rw [e1]
      exact hq.ft
    have hrest : ∀ q, FX c3.w ms ys (ids.drop (rsN t)) q g → OBs c3.w tR (num (i + 1) ms) g := fun q hq => (FX.main (ms := ms) (fun k z hk => by rw [show i + 1 + k = i + (k + 1) by omega]; exact hy (k + 1) z (by simpa using hk)) (fun _ _ _ => trivial) h3 hq).1
    rcases h with h | h <;> rcases h' with h' | h'
    · exact FXo.apart m1 m2 h h'
    · exact absurd (hrest _ h') (h2 g (hOB _ h))
    · exact absurd (hrest _ h) (h2 g (hOB _ h'))
    · exact FX.apart (ms := ms) (fun k z hk => by rw [show i + 1 + k = i + (k + 1) by omega]; exact hy (k + 1) z (by simpa using hk)) h3 h h'
  | .c agg (.r e t) :: ms, i, x, y :: ys, [], hy, hs, h, _ => h.elim
  | .t agg t :: ms, i, x, y :: ys, ids, hy, hs, h, _ => by cases ids <;> exact h.elim
  | .b t ks :: ms, i, x, y :: ys, [], hy, hs, h, _ => h.elim
  | .c agg (.r e t) :: ms, i, x, y :: ys, o :: ids, hy, hs, h, h' => by
    have hs0 := hs
    obtain ⟨h1, h2, h3⟩ := hs
    have hrest : ∀ q, FX c3.w ms ys ids q g → OBs c3.w tR (num (i + 1) ms) g := fun q hq => (FX.main (ms := ms) (fun k z hk => by rw [show i + 1 + k = i + (k + 1) by omega]; exact hy (k + 1) z (by simpa using hk)) (fun _ _ _ => trivial) h3 hq).1
    have hOB : blk y = some g → OBe c3.w (.c agg (.r e t)) (tR.getD i undef) g := fun hb => by
      have hy0 : tR.getD i undef = y := hy 0 y rfl
      show OBc c3.w [.r e t] (tR.getD i undef).cells.toList g
      rw [hy0]
      have hone : y.oneCell' = true := by
        cases y <;> first | rfl | cases hb
      rw [one_cells hone]
      exact .inl hb
    rcases h with ⟨h, hb⟩ | h <;> rcases h' with ⟨h', hb'⟩ | h'
    · rw [h] at h'; injection h'
    · exact absurd (hrest _ h') (h2 g (hOB hb))
    · exact absurd (hrest _ h) (h2 g (hOB hb'))
    · exact FX.apart (ms := ms) (fun k z hk => by rw [show i + 1 + k = i + (k + 1) by omega]; exact hy (k + 1) z (by simpa using hk)) h3 h h'
  | .b t ks :: ms, i, x, y :: ys, o :: ids, hy, hs, h, h' => by
    obtain ⟨h1, h2, h3⟩ := hs
    have hrest : ∀ q, FX c3.w ms ys ids q g → OBs c3.w tR (num (i + 1) ms) g := fun q hq => (FX.main (ms := ms) (fun k z hk => by rw [show i + 1 + k = i + (k + 1) by omega]; exact hy (k + 1) z (by simpa using hk)) (fun _ _ _ => trivial) h3 hq).1
    have hOB : blk y = some g → OBe c3.w (.b t ks) (tR.getD i undef) g := fun hb => by
      have hy0 : tR.getD i undef = y := hy 0 y rfl
      obtain ⟨gg, conc, e1, e2, e3, e4⟩ := h1
      refine ⟨gg, conc, e1, e2, .inl ?_⟩
      rw [hy0] at e1
      rw [e1] at hb; injection hb with hb; exact hb.symm
    rcases h with ⟨h, hb⟩ | h <;> rcases h' with ⟨h', hb'⟩ | h'
    · rw [h] at h'; injection h'
    · exact absurd (hrest _ h') (h2 g (hOB hb))
    · exact absurd (hrest _ h) (h2 g (hOB hb'))
    · exact FX.apart (ms := ms) (fun k z hk => by rw [show i + 1 + k = i + (k + 1) by omega]; exact hy (k + 1) z (by simpa using hk)) h3 h h'

/-- So behind results. -/
theorem FX.all {c3 : Cx} {tR : Array Value} {ids : List (Option Nat)} {ys : List Value} : ∀ {rs ms : List LK} {i : Nat} {x : sdens (num i (rs ++ ms))} {zs : List Value}, zs.length = rs.length → (∀ k y, (zs ++ ys)[k]? = some y → tR.getD (i + k) undef = y) → SigRel c3 tR (num i (rs ++ ms)) x →
    (∀ j g, FX c3.w ms ys ids j g → OBs c3.w tR (num i (rs ++ ms)) g ∧ ¬ GB c3.w tR i rs ms g ∧ some j ∈ ids) ∧ ∀ j j' g, FX c3.w ms ys ids j g → FX c3.w ms ys ids j' g → j = j'
  | [], ms, i, x, zs, hz, hy, hs => by
    cases zs with
    | cons _ _ => cases hz
    | nil => exact ⟨fun j g h => FX.main hy (fun _ _ _ => trivial) hs h, fun j j' g h h' => FX.apart hy hs h h'⟩
  | k :: rs, ms, i, x, [], hz, hy, hs => by cases hz
  | k :: rs, ms, i, x, z :: zs, hz, hy, ⟨_, h2, h3⟩ => by
    obtain ⟨k1, k2⟩ := FX.all (ids := ids) (rs := rs) (i := i + 1) (x := x.2) (zs := zs) (by simpa using hz) (fun k y hk => by rw [show i + 1 + k = i + (k + 1) by omega]; exact hy (k + 1) y (by simpa using hk)) h3
    refine ⟨fun j g h => ?_, k2⟩
    obtain ⟨q1, q2, q3⟩ := k1 j g h
    refine ⟨.inr q1, fun h => ?_, q3⟩
    rcases h with h | h
    · exact h2 g h q1
    · exact q2 h

theorem lendAll_ids : ∀ {rs ms : List LK} {i : Nat} {x : sdens (num i (rs ++ ms))} {ids : List (Option Nat)} {st : St}, (lendAll i rs ms x ids st).store.map (·.1) = st.store.map (·.1) ∧ (lendAll i rs ms x ids st).env = st.env
  | [], ms, i, x, ids, st => lendSt_ids
  | _ :: rs, ms, i, x, ids, st => lendAll_ids (rs := rs)

theorem lendAll_ent {cf c3 cx : Cx} {tR : Array Value} (hw : cx.w = c3.w) (hρ : cx.ρ = cf.ρ) (hI : cx.I = c3.I) (hT : ∀ g, (∃ j, j ∈ cf.D ∧ blk (cf.ρ j) = some g) → ¬ c3.T g → ¬ cx.T g) : ∀ {rs ms : List LK} {i : Nat} {x : sdens (num i (rs ++ ms))} {zs ys : List Value} {ids : List (Option Nat)} {st : St} {j : Nat} {e : Ent}, ms.all LK.mut = true → zs.length = rs.length →
    (∀ k y, (zs ++ ys)[k]? = some y → tR.getD (i + k) undef = y) → LentM cf ms ys ids → SigRel c3 tR (num i (rs ++ ms)) x → (∀ g, OBs c3.w tR (num i (rs ++ ms)) g → ¬ c3.T g) → (∀ g, FX c3.w ms ys ids j g → cx.X j g) → (j, e) ∈ (lendAll i rs ms x ids st).store → (some j ∉ ids ∧ (j, e) ∈ st.store) ∨ entRel cx j e
  | [], ms, i, x, zs, ys, ids, st, j, e, hm, hz, hy, hl, hs, hO, hX, h => by
    cases zs with
    | cons _ _ => cases hz
    | nil =>
      rcases lendSt_mem hm hl h with h1 | h1
      · exact .inl h1
      · exact .inr (LendE.rel hw hρ hI hT hy hl hm hs hO hX h1)
  | k :: rs, ms, i, x, [], ys, ids, st, j, e, hm, hz, hy, hl, hs, hO, hX, h => by cases hz
  | k :: rs, ms, i, x, z :: zs, ys, ids, st, j, e, hm, hz, hy, hl, hs, hO, hX, h =>
    lendAll_ent (rs := rs) (i := i + 1) (x := x.2) (zs := zs) hw hρ hI hT hm (by simpa using hz) (fun k y hk => by rw [show i + 1 + k = i + (k + 1) by omega]; exact hy (k + 1) y (by simpa using hk)) hl hs.2.2 (fun g hg => hO g (.inr hg)) hX h

theorem muNums_nil : ∀ {ps : List LK} {i : Nat}, muNums (num i ps) = [] → ps.any LK.mut = false
  | [], _, _ => rfl
  | .c _ (.v _ _) :: ps, i, h => by
    have := muNums_nil (ps := ps) (i := i + 1) h
    simpa [LK.mut] using this
  | .c _ (.f _) :: ps, i, h => by
    have := muNums_nil (ps := ps) (i := i + 1) h
    simpa [LK.mut] using this
  | .c _ (.g _) :: ps, i, h => by
    have := muNums_nil (ps := ps) (i := i + 1) h
    simpa [LK.mut] using this
  | .c _ (.r _ _) :: ps, i, h => by simp [num, muNums, LK.mut] at h
  | .c _ (.o _) :: ps, i, h => by simp [num, muNums, LK.mut] at h
  | .b _ _ :: ps, i, h => by simp [num, muNums, LK.mut] at h
  | .t _ _ :: ps, i, h => by simp [num, muNums, LK.mut] at h
theorem num_length : ∀ (ps : List LK) (i : Nat), (num i ps).length = ps.length
  | [], _ => rfl
  | _ :: ps, i => by simp [num, num_length ps]

/-- The contract of a function of which it is known what its calls do. -/
theorem conOf_gen {f : FuncId} (henter : ∀ args w, (callFunc f args).run P w = .ok (.enter f args) w) {ps rs : List LK} (hk : rs.all LK.kept = true) {F : pdens ps → Option (rdens ps rs)} {pad : Array Value → Array Value} (hpad : ∀ (args : Array Value) (j : Nat) (y : Value), args.toList[j]? = some y → (pad args).getD (0 + j) undef = y)
    (h : ∀ (ci : Cx) (args : Array Value) (xs : pdens ps) (ys : rdens ps rs), F xs = some ys → ci.D = [] → (∀ k, ci.I k → ci.T k) → (∀ k, ci.T k → k < ci.w.heap.size) → args.size = ps.length → SigRel ci (pad args) (num 0 ps) xs → (∀ g, OBs ci.w (pad args) (num 0 ps) g → ¬ ci.T g) →
      Calls P f args ci.w fun e w' => ∃ (c3 : Cx) (zs : List Value), e = .returned (mkRes zs) ∧ zs.length = rs.length ∧ Step ci c3 ∧ c3.w = w' ∧ (∀ k, c3.I k → c3.T k) ∧ (∀ k, c3.T k → k < c3.w.heap.size) ∧
        SigRel c3 (zs ++ (mutNums (num 0 ps)).map fun s => (pad args).getD s undef).toArray (num 0 (rs ++ muts ps)) ys ∧ ∀ g, OBs c3.w (zs ++ (mutNums (num 0 ps)).map fun s => (pad args).getD s undef).toArray (num 0 (rs ++ muts ps)) g → ¬ c3.T g ∧ g < c3.w.heap.size) :
    Con.ok P f (conOf ps rs F) := by
  refine ⟨henter, fun {R} lim K r vs args c st tmps hrun hr hv => ?_⟩
  obtain ⟨xs, ids, st1, c1, h1, h2, h3, h4, h5, h6, h7⟩ := readArgs_some (c0 := c) (ps := ps) (tA := pad args) hrun hr (Later.refl hr.s) hv (hpad args)
  rw [List.nil_append] at h1
  split at h1
  rotate_left
  · cases h1
  rename_i hp
  split at h1
  rotate_left
  · cases h1
  rename_i ys hys
  have hD := present_D h2.s hp
  have hown := Arg.owner h2.s h4 hD
  have hO1 : ∀ g, OBs c1.w (pad args) (num 0 ps) g → ¬ c1.T g := by
    intro g hg
    rcases hown g hg with ⟨id, g1, g2⟩ | ⟨g1, _⟩
    · exact h2.s.notTX (hD id g1) g2
    · exact g1
  let ci := c1.lend (pad args) (num 0 ps)
  have hc1T : ∀ k, c1.T k → ci.T k := fun k hk => ⟨h2.s.lt k hk, fun hO => hO1 k hO hk⟩
  have hsig : SigRel ci (pad args) (num 0 ps) xs := Arg.sig (cf := c1) (ci := ci) h2.s rfl (fun _ h => h) hc1T (fun hm k hk => ⟨hk, any_num hm⟩) h4 hD
  have hcall := h ci args xs ys hys rfl (fun k hk => hc1T k (h2.s.sub k hk)) (fun k hk => hk.1) (by rw [← h7, Array.length_toList]) hsig (fun g hg hT => hT.2 hg)
  rw [← h3.w]
  refine hcall.mono fun e w' hh => ?_
  obtain ⟨c3, zs, rfl, hzl, hst, rfl, g3, g4, g5, g6⟩ := hh
  generalize hmvv : (mutNums (num 0 ps)).map (fun s => (pad args).getD s undef) = mv at g5 g6
  generalize htR : (zs ++ mv).toArray = tR at g5 g6
  have hy : ∀ k y, (zs ++ mv)[k]? = some y → tR.getD (0 + k) undef = y := by
    intro k y hk
    rw [← htR, Nat.zero_add, Array.getD_eq_getD_getElem?]
    simp only [List.getElem?_toArray, hk]
    rfl
  have hlent := Arg.lent h4 hD
  rw [hmvv] at hlent
  have hO3 : ∀ g, OBs c3.w tR (num 0 (rs ++ muts ps)) g → ¬ c3.T g := fun g hg => (g6 g hg).1
  -- how the callee's end lies to the caller's
  have hag : ∀ k, ci.T k → c3.w.heap[k]? = c1.w.heap[k]? := fun k hk => hst.agree k hk
  have hsz : c1.w.heap.size ≤ c3.w.heap.size := hst.below.size
  have hnew : ∀ k, c3.I k → c1.I k ∨ ¬ ci.T k := hst.new
  have hI : ∀ k, c1.I k → c3.I k := hst.I
  have hT3 : ∀ k, ci.T k → c3.T k := hst.T
  obtain ⟨hFX, hFA⟩ := FX.all (ids := ids) hzl hy g5
  have hlt3 : ∀ g, OBs c3.w tR (num 0 (rs ++ muts ps)) g → g < c3.w.heap.size := fun g hg => (g6 g hg).2
  let cx : Cx := { D := c1.D, I := c3.I, T := fun k => c1.T k ∨ c3.I k, w := c3.w, ρ := c1.ρ, X := fun j g => (some j ∈ ids ∧ FX c3.w (muts ps) mv ids j g) ∨ (some j ∉ ids ∧ c1.X j g) }
  have hfree : ∀ j g, j ∈ c1.D → some j ∉ ids → c1.ow j g → ci.T g := by
    intro j g hj hnl hb
    refine ⟨h2.s.ltX hj hb, fun hO => ?_⟩
    rcases hown g hO with ⟨id, q1, q2⟩ | ⟨_, q1⟩
    · exact h2.s.apartX j id g hj (hD id q1) (fun e => hnl (by rw [e]; exact q1)) hb q2
    · exact q1 j hj hb
  have hlow : ∀ j g, some j ∈ ids → cx.ow j g → FX c3.w (muts ps) mv ids j g := by
    rintro j g hj (hg | ⟨_, hg⟩ | ⟨hg, _⟩)
    · exact FX.of_blk (cf := c1) hg hlent hj
    · exact hg
    · exact absurd hj hg
  have hnow : ∀ j g, some j ∉ ids → cx.ow j g → c1.ow j g := by
    rintro j g hj (hg | ⟨hg, _⟩ | ⟨_, hg⟩)
    · exact .inl hg
    · exact absurd hg hj
    · exact .inr hg
  have hnT : ∀ g, (∃ j, j ∈ c1.D ∧ blk (c1.ρ j) = some g) → ¬ c3.T g → ¬ cx.T g := by
    rintro g ⟨j, q1, q2⟩ q3 (q4 | q4)
    · exact notT_D h2 q1 q2 q4
    · exact q3 (g3 g q4)
  have hml : ∀ l y, leafRel c1 l y → leafRel cx l y := fun l y hl => leafRel.move (c' := cx) (fun k hk => hag k (hc1T k hk)) h2.s.sub (fun _ h => .inl h) hI (fun i _ hi => ⟨hi, rfl⟩) hl
  have hstep : Step c1 cx := ⟨hst.below, fun k hk => hag k (hc1T k hk), fun k hk => .inl hk, hI, fun k hk => by
    rcases hnew k hk with h9 | h9
    · exact .inl h9
    · exact .inr fun hT => h9 (hc1T k hT)⟩
  have hmu := muts_kept ps
  have hcxT : ∀ g, ¬ c3.T g → ¬ cx.T g := by
    rintro g hn (h9 | h9)
    · exact hn (hT3 g (hc1T g h9))
    · exact hn (g3 g h9)
  have hrx : Rel cx (lendAll 0 rs (muts ps) ys ids st1) tmps := by
    obtain ⟨l1, l2⟩ := lendAll_ids (rs := rs) (ms := muts ps) (i := 0) (x := ys) (ids := ids) (st := st1)
    refine ⟨⟨by rw [l1]; exact h2.s.ids, h2.s.nodup, fun j e he => ?_, fun i j g hi hj hij hg hh => ?_, fun i g hi hg => ?_, fun k hk => .inr hk, fun k hk => ?_⟩, by rw [l2]; exact h2.env.mono fun _ _ => avRel.imp hml⟩
    · rcases lendAll_ent (cf := c1) (c3 := c3) (cx := cx) rfl rfl rfl hnT hmu.2 hzl hy hlent g5 hO3 (fun g hg => .inl ⟨(hFX j g hg).2.2, hg⟩) he with ⟨q1, q2⟩ | q1
      · have hent := h2.s.ent j e q2
        have hjD : j ∈ c1.D := by rw [h2.s.ids]; exact List.mem_map.mpr ⟨_, q2, rfl⟩
        have := hent.move (c1 := cx) (f := fun l => l) hml (fun _ _ => rfl) rfl (fun g hg => hag g (hfree j g hjD q1 hg)) (fun g hg => by
          rintro (h9 | h9)
          · exact hent.notT hg h9
          · rcases hnew g h9 with h8 | h8
            · exact hent.notT hg (h2.s.sub g h8)
            · exact h8 (hfree j g hjD q1 (.inl hg))) (fun g hg => .inr ⟨q1, hg⟩)
        rwa [mapE_id (fun _ => rfl)] at this
      · exact q1
    · by_cases hil : some i ∈ ids
      · have hg := hlow i g hil hg
        by_cases hjl : some j ∈ ids
        · exact hij (hFA i j g hg (hlow j g hjl hh))
        · exact hO3 g (hFX i g hg).1 (hT3 g (hfree j g hj hjl (hnow j g hjl hh)))
      · have hg := hnow i g hil hg
        by_cases hjl : some j ∈ ids
        · exact hO3 g (hFX j g (hlow j g hjl hh)).1 (hT3 g (hfree i g hi hil hg))
        · exact h2.s.apartX i j g hi hj hij hg (hnow j g hjl hh)
    · rcases hg with ⟨q1, hg⟩ | ⟨q1, hg⟩
      · have hO := (hFX i g hg).1
        exact ⟨hcxT g (hO3 g hO), hlt3 g hO⟩
      · refine ⟨?_, Nat.lt_of_lt_of_le (h2.s.ext i g hi hg).2 hsz⟩
        rintro (h9 | h9)
        · exact (h2.s.ext i g hi hg).1 h9
        · rcases hnew g h9 with h8 | h8
          · exact (h2.s.ext i g hi hg).1 (h2.s.sub g h8)
          · exact h8 (hfree i g hi q1 (.inr hg))
    · rcases hk with hk | hk
      · exact Nat.lt_of_lt_of_le (h2.s.lt k hk) hsz
      · exact g4 k (g3 k hk)
  have hGO : ∀ g, GB c3.w tR 0 rs (muts ps) g → ¬ c3.T g := fun g hg => hO3 g (GB_OBs hg)
  have hG : ∀ g, GB cx.w tR 0 rs (muts ps) g → ¬ cx.T g ∧ ∀ j, j ∈ cx.D → ¬ cx.ow j g := by
    intro g hg
    have hn3 := hGO g hg
    refine ⟨hcxT g hn3, fun j hj hb => ?_⟩
    by_cases hjl : some j ∈ ids
    · exact (hFX j g (hlow j g hjl hb)).2.1 hg
    · exact hn3 (hT3 g (hfree j g hj hjl (hnow j g hjl hb)))
  obtain ⟨c4, m1, m2, m3, m4, m5, m6⟩ := giveAll_some (c := cx) hmu.2 hzl hrx hy (hlent.move hml) (g5.moveI (c := c3) (c' := cx) rfl (fun _ h => h) (by rw [List.all_append, hk, hmu.1]; rfl)) hG
  refine ⟨_, _, c4, mkRes zs, rfl, h1, m1, resAV_rel m4, (h3.step.trans hstep).trans m2.1, fun M hM => ?_, m3⟩
  have hstolen : ∀ g, g < c.w.heap.size → ¬ c3.T g → OBs c1.w (pad args) (num 0 ps) g := by
    intro g hlt hn
    have : ¬ ci.T g := fun h => hn (hT3 g h)
    by_cases hO : OBs c1.w (pad args) (num 0 ps) g
    · exact hO
    · exact absurd ⟨by rw [h3.w]; exact hlt, hO⟩ this
  have hK : ∀ g, OBs c1.w (pad args) (num 0 ps) g → ∃ j, j ∈ M ∧ j ∈ c.D ∧ c.ow j g := by
    intro g hg
    rcases hM with hM | hM
    · rw [h3.w] at hg
      obtain ⟨j, q1, q2, q3⟩ := h5 g hg
      exact ⟨j, q3 M hM, q1, q2⟩
    · exact absurd hg (any_num (muNums_nil (ps := ps) (i := 0) hM))
  have hKK : ∀ g, OBs c1.w (pad args) (num 0 ps) g → ∃ j, j ∈ c.D ∧ c.ow j g := by
    intro g hg
    rw [h3.w] at hg
    obtain ⟨j, q1, q2, _⟩ := h5 g hg
    exact ⟨j, q1, q2⟩
  have hback2 : ∀ i g, i ∈ c4.D → c4.ow i g → g < c.w.heap.size → ∃ j, j ∈ c.D ∧ c.ow j g := by
    intro i g hi hg hlt
    rcases m6 i hi with ⟨q1, q2, q3⟩ | q1
    · have hg := q3 g hg
      by_cases hil : some i ∈ ids
      · exact hKK g (hstolen g hlt (hO3 g (hFX i g (hlow i g hil hg)).1))
      · exact ⟨i, h3.D i q1, h3.ow q1 (hnow i g hil hg)⟩
    · exact hKK g (hstolen g hlt (hGO g (q1 g hg)))
  have hbT : ∀ k, c4.T k → k < c.w.heap.size → c.T k ∨ ∃ i, i ∈ c.D ∧ c.ow i k := by
    intro k hk hlt
    rw [m2.2] at hk
    rcases hk with hk | hk
    · exact h3.T k hk
    · rcases hnew k hk with h9 | h9
      · exact h3.T k (h2.s.sub k h9)
      · by_cases hO : OBs c1.w (pad args) (num 0 ps) k
        · exact .inr (hKK k hO)
        · exact absurd ⟨by rw [h3.w]; exact hlt, hO⟩ h9
  have hback : ∀ i g, i ∈ c4.D → c4.ow i g → g < c.w.heap.size → (i ∈ c1.D ∧ some i ∉ ids ∧ c1.ow i g ∧ c4.ρ i = c1.ρ i) ∨ ∃ j, j ∈ M ∧ j ∈ c.D ∧ c.ow j g := by
    intro i g hi hg hlt
    rcases m6 i hi with ⟨q1, q2, q3⟩ | q1
    · have hg := q3 g hg
      by_cases hil : some i ∈ ids
      · exact .inr (hK g (hstolen g hlt (hO3 g (hFX i g (hlow i g hil hg)).1)))
      · exact .inl ⟨q1, hil, hnow i g hil hg, q2⟩
    · exact .inr (hK g (hstolen g hlt (hGO g (q1 g hg))))
  refine ⟨by rw [m3, ← h3.w]; exact hsz, fun k hlt _ hm => ?_, fun i hi g hg hlt => ?_, fun i hiM hi g hg hlt => ?_, hbT, fun i hi g hg hlt => hback2 i g hi hg hlt⟩
  · rw [m3, ← h3.w]
    refine hag k ⟨by rw [h3.w]; exact hlt, fun hO => ?_⟩
    obtain ⟨j, q3, q1, q2⟩ := hK k hO
    exact hm j q3 q1 q2
  · rcases hback i g hi (.inl (ownBlock_blk hg)) hlt with ⟨q1, _, q3, q4⟩ | q1
    · exact .inl ⟨i, h3.D i q1, by rw [← h3.ρ i q1, ← q4]; exact hg⟩
    · exact .inr q1
  · rcases hback i g hi hg hlt with ⟨q1, _, q3, _⟩ | q1
    · exact ⟨i, hiM, h3.D i q1, h3.ow q1 q3⟩
    · exact q1


theorem conOf_ok (htb : tb.ok P) {f : FuncId} {fn : Func} (hla : ∀ code, fn.body = some code → LpAll tb code) (hf : P.funcs[f]? = some fn) (henter : ∀ args w, (callFunc f args).run P w = .ok (.enter f args) w) {ps rs : List LK} (hk : rs.all LK.kept = true) (hfx : tb.fixed = mutNums (num 0 ps)) {F : pdens ps → Option (rdens ps rs)}
    (h : ∀ xs, evSig tb fn ps rs xs = F xs) : Con.ok P f (conOf ps rs F) := by
  refine conOf_gen henter hk (pad := argTmps fn) (fun args j y hj => ?_) fun ci args xs ys hys hD hs hl hsz hsig hO => ?_
  · have hlt : j < args.size := by
      have := (List.getElem?_eq_some_iff.mp hj).1
      rwa [Array.length_toList] at this
    rw [Array.getElem?_toList] at hj
    unfold argTmps
    rw [Nat.zero_add, Array.getD_eq_getD_getElem?, Array.getElem?_append_left hlt, hj]
    rfl
  · rw [← h xs] at hys
    refine (evFn_calls (c := ci) htb hla hf hys (by rw [num_length, hsz]) hD hs hl hsig hO).mono fun e w' hh => ?_
    obtain ⟨c2, vs2, zs, st2, tmps2, rfl, k1, k2, k3, k4, rfl, k5⟩ := hh
    split at k1
    rotate_left
    · cases k1
    rename_i ms hms
    split at k1
    rotate_left
    · cases k1
    rename_i hlen
    have hmv := mutVals_rel k2 hms
    have hmap : (mutNums (num 0 ps)).map (fun s => tmps2.getD s undef) = (mutNums (num 0 ps)).map (fun s => (argTmps fn args).getD s undef) := List.map_congr_left fun s hs => k5 s (by rw [hfx]; exact hs)
    rw [hmap] at hmv
    have hrR : Rel c2 { env := (vs2 ++ ms).map .one, store := st2.store } (zs ++ (mutNums (num 0 ps)).map fun s => (argTmps fn args).getD s undef).toArray := ⟨k2.s, by
      show All2 _ _ (zs ++ (mutNums (num 0 ps)).map fun s => (argTmps fn args).getD s undef).toArray.toList
      simp only
      exact All2.map (k3.append hmv)⟩
    obtain ⟨ys', c3, g1, g2, g3, g4, g5, g6⟩ := getVals_some k1 hrR
    injection g1 with g1
    subst g1
    refine ⟨c3, zs, rfl, by rw [← k3.length, hlen], k4.trans g2.step, g2.w, g3, g4, g5, fun g hg => ?_⟩
    obtain ⟨⟨i, i1, i2⟩, i3⟩ := g6 g (by rw [← g2.w]; exact hg)
    refine ⟨i3, ?_⟩
    rw [g2.w]
    exact k2.s.ltX i1 i2

/-- A function that comes to nothing. -/
theorem con_none {f : FuncId} {ps rs : List LK} {F : pdens ps → Option (rdens ps rs)} (henter : ∀ args w, (callFunc f args).run P w = .ok (.enter f args) w) (h : ∀ x, F x = none) : Con.ok P f (conOf ps rs F) := by
  refine ⟨henter, fun {R} lim K r vs args c st tmps hrun hr hv => ?_⟩
  obtain ⟨xs, ids, st1, c1, h1, _⟩ := readArgs_some (c0 := c) (ps := ps) (tA := args) hrun hr (Later.refl hr.s) hv (fun j y hj => by
    rw [Array.getElem?_toList] at hj
    rw [Nat.zero_add, Array.getD_eq_getD_getElem?, hj]
    rfl)
  rw [h xs] at h1
  split at h1 <;> cases h1

end
end Go.Proofs.Ytdacfaincamliaa.Ev
