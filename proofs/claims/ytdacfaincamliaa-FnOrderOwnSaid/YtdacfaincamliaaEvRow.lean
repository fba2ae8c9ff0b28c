/- What a law's arguments hold when they can be read as data, and a law's call out of its plain function. Conditions: none. -/
import Derived.Test.YtdacfaincamliaaEvFn
import Derived.ChangeSlices
import Derived.ChangeArms
import Derived.ChangeShapes
import Derived.ChangeOld
import Derived.Deep.Slices
import Derived.OpenShut
import Derived.Below
import Derived.Carry
import Derived.SizedLaws
namespace Go.Proofs.Ytdacfaincamliaa.Ev
open Go Go.RowKit Go.ChangeShapes Go.WideShapes

/-- What data is known to be, besides its type. -/
def Good : (t : Ty) → t.den → Prop
  | .int k, n => (Lit.int k n).wf = true
  | .bool, _ => True
  | .str, s => s.size ≤ 9223372036854775807
  | .rs _ t, xs => xs.length ≤ 9223372036854775807 ∧ ∀ x ∈ xs, Good t x
  | .pair a b, p => Good a p.1 ∧ Good b p.2

/-- Fields that lie one behind the other. -/
def fieldsOk (P : Program) (g : TypeId → Ty → Bool) : List Field → Nat → Ty → Bool
  | [], _, _ => false
  | [f], off, t => f.offset == off && P.cellsOf f.type == t.sz && g f.type t
  | f :: f' :: fs, off, t =>
    match t with
    | .pair a b => f.offset == off && P.cellsOf f.type == a.sz && g f.type a && fieldsOk P g (f' :: fs) (off + a.sz) b
    | _ => false

def tyOk (P : Program) : Nat → TypeId → Ty → Bool
  | 0, _, _ => false
  | n + 1, i, t =>
    match P.underlying i with
    | some (.int k) => t == .int k
    | some .bool => t == .bool
    | some .string => t == .str
    | some (.slice e) => match t with | .rs e' t' => e == e' && P.cellsOf e == t'.sz && tyOk P n e t' | _ => false
    | some (.struct fs) => fieldsOk P (tyOk P n) fs.toList 0 t && P.cellsOf i == t.sz
    | _ => false

theorem Ty.sz_pos' : ∀ t : Ty, 0 < t.sz
  | .int _ => Nat.one_pos
  | .bool => Nat.one_pos
  | .str => Nat.one_pos
  | .rs _ _ => Nat.one_pos
  | .pair a b => Nat.add_pos_left (Ty.sz_pos' a) _

section
variable {P : Program}

theorem cell_lt {w : World} {a : Addr} {u : Value} (h : w.cell? a = some u) : a.block < w.heap.size := by
  by_cases hb : a.block < w.heap.size
  · exact hb
  · exfalso
    have : w.heap[a.block]? = none := by simp; omega
    simp [World.cell?, this] at h

def opensAt (P : Program) (n : Nat) (i : TypeId) (t : Ty) : Prop :=
  tyOk P n i t = true → ∀ (H : Type) (enc : TypeId × Value → H) (w : World) (fuel : Nat) (cs : List Value) (x : DataW H × List MemPlace),
    DataW.trod enc P w 0 (fun _ => true) true fuel i cs = some x → ∃ a : t.den, RdE (fun k => k < w.heap.size) t w a cs ∧ Good t a

theorem opens_fields {n : Nat} (ih : ∀ i t, opensAt P n i t) {H : Type} {enc : TypeId × Value → H} {w : World} {fuel : Nat} {cs : List Value} : ∀ {fs : List Field} {off : Nat} {t : Ty}, fieldsOk P (tyOk P n) fs off t = true → off + t.sz = cs.length →
    (∀ f ∈ fs, ∃ y, DataW.trod enc P w 0 (fun _ => true) true fuel f.type ((cs.drop f.offset).take (P.cellsOf f.type)) = some y) → ∃ a : t.den, RdE (fun k => k < w.heap.size) t w a (cs.drop off) ∧ Good t a
  | [], _, _, h, _, _ => by simp [fieldsOk] at h
  | [f], off, t, h, hl, hf => by
    simp only [fieldsOk, Bool.and_eq_true, beq_iff_eq] at h
    obtain ⟨⟨h1, h2⟩, h3⟩ := h
    obtain ⟨y, hy⟩ := hf f (by simp)
    rw [h1, h2, List.take_of_length_le (by rw [List.length_drop]; omega)] at hy
    exact ih _ _ h3 H enc w fuel _ _ hy
  | f :: f' :: fs, off, t, h, hl, hf => by
    cases t with
    | pair a b =>
      simp only [fieldsOk, Bool.and_eq_true, beq_iff_eq] at h
      obtain ⟨⟨⟨h1, h2⟩, h3⟩, h4⟩ := h
      obtain ⟨y, hy⟩ := hf f (by simp)
      rw [h1, h2] at hy
      obtain ⟨x0, k0, g0⟩ := ih _ _ h3 H enc w fuel _ _ hy
      obtain ⟨x1, k1, g1⟩ := opens_fields ih (fs := f' :: fs) (off := off + a.sz) h4 (by simp only [Ty.sz] at hl; omega) (fun g hg => hf g (List.mem_cons_of_mem _ hg))
      refine ⟨(x0, x1), ⟨_, _, ?_, k0, k1⟩, g0, g1⟩
      rw [← List.drop_drop, List.take_append_drop]
    | int _ => simp [fieldsOk] at h
    | bool => simp [fieldsOk] at h
    | str => simp [fieldsOk] at h
    | rs _ _ => simp [fieldsOk] at h

theorem opens : ∀ n i t, opensAt P n i t
  | 0, i, t, h => by simp [tyOk] at h
  | n + 1, i, t, h => by
    intro H enc w fuel cs x hx
    unfold tyOk at h
    split at h
    · rename_i k hu
      have ht : t = .int k := by simpa using h
      subst ht
      obtain ⟨m, e, _, hw⟩ := DataW.trod_int hu hx
      exact ⟨m, e, hw⟩
    · rename_i hu
      have ht : t = .bool := by simpa using h
      subst ht
      obtain ⟨b, e, _⟩ := DataW.trod_bool hu hx
      exact ⟨b, e, trivial⟩
    · rename_i hu
      have ht : t = .str := by simpa using h
      subst ht
      obtain ⟨s, e, _, hl⟩ := DataW.trod_string hu hx
      exact ⟨s, e, hl⟩
    · rename_i e hu
      split at h
      · rename_i e' t'
        simp only [Bool.and_eq_true, beq_iff_eq] at h
        obtain ⟨⟨h1, h2⟩, h3⟩ := h
        subst h1
        rcases Go.Deep.open_slice hu hx with ⟨rfl, _⟩ | ⟨a, len, cap, m, fu, D, Pl, rfl, _, hl, hm, hmm, _, hel⟩
        · exact ⟨[], ⟨none, 0, rfl, Nat.le_refl _, by simp, fun h0 => absurd h0 (by simp)⟩, by simp, fun x hx => absurd hx (by simp)⟩
        · have hle : len ≤ m := by rw [hmm]; simpa using hl
          haveI : Inhabited t'.den := ⟨t'.dflt⟩
          obtain ⟨f, hf⟩ := Go.Deep.choose_lt (α := t'.den) (n := len) (p := fun i y => (∃ c, w.cells? 0 (a.add (i * P.cellsOf e)) (P.cellsOf e) = some c ∧ RdE (fun k => k < w.heap.size) t' w y c) ∧ Good t' y) (fun i hi => by
            obtain ⟨c, h1, h2⟩ := hel i (by omega)
            obtain ⟨y, h4, h5⟩ := opens n e t' h3 H enc w fu c _ h2
            exact ⟨y, ⟨c, h1, h4⟩, h5⟩)
          have hlen : ((List.range len).map f).length = len := by simp
          have hmx : len ≤ 9223372036854775807 := by unfold maxLen at hm; omega
          refine ⟨(List.range len).map f, ⟨some a, cap, by rw [hlen], by rw [hlen]; exact hl, by rw [hlen]; exact hmx, fun h0 => ⟨a, rfl, ?_, ?_⟩⟩, by rw [hlen]; exact hmx, ?_⟩
          · rw [hlen] at h0
            obtain ⟨⟨c, k1, k2⟩, _⟩ := hf 0 h0
            obtain ⟨_, k4, k5⟩ := World.cells?_some k1
            have hc0 : 0 < c.length := by
              rw [k2.length]
              exact Ty.sz_pos' t'
            have := k5 0 (by rw [h2]; rw [k2.length] at hc0; exact hc0)
            rw [List.getElem?_eq_getElem hc0] at this
            have hlt := cell_lt this
            rwa [add_block, add_block] at hlt
          · intro j p hp
            rw [List.getElem?_map] at hp
            obtain ⟨i, hi, rfl⟩ := Option.map_eq_some_iff.mp hp
            have hj : j < len := by
              by_cases hj : j < len
              · exact hj
              · rw [List.getElem?_eq_none (by simp; omega)] at hi; cases hi
            rw [List.getElem?_range hj] at hi
            cases hi
            obtain ⟨⟨c, k1, k2⟩, _⟩ := hf j hj
            obtain ⟨_, k4, k5⟩ := World.cells?_some k1
            refine ⟨c, k2.length, k2, fun i u hu => ?_⟩
            have hi : i < c.length := by
              by_cases hi : i < c.length
              · exact hi
              · rw [List.getElem?_eq_none (by omega)] at hu; cases hu
            have hi2 : i < P.cellsOf e := by rw [h2, ← k2.length]; exact hi
            rw [← h2, ← Go.Deep.add_add, k5 i hi2]
            exact hu
          · intro y hy
            obtain ⟨i, hi, rfl⟩ := List.mem_map.mp hy
            exact (hf i (List.mem_range.mp hi)).2
      · cases h
    · rename_i fs hu
      simp only [Bool.and_eq_true, beq_iff_eq] at h
      obtain ⟨h1, h2⟩ := h
      obtain ⟨xs, m, _, _, hcl, hxl, hf⟩ := DataW.trod_struct hu hx
      have := opens_fields (fun i t => opens n i t) (enc := enc) (w := w) (fuel := m) (cs := cs) h1 (by rw [hcl]; omega) (fun f hf' => by
        obtain ⟨j, hj, hjf⟩ := List.getElem_of_mem hf'
        have hg := hf j f (by rw [Array.length_toList] at hj; rw [Array.getElem?_eq_getElem hj]; simpa using hjf)
        rw [Array.length_toList] at hj
        rw [List.getElem?_eq_getElem (by omega)] at hg
        exact ⟨_, hg⟩)
      simpa using this
    · cases h

/-- The arguments, as data. -/
def ArgsRd (W : World) : (i : Nat) → (ps : List LK) → sdens (num i ps) → List Value → Prop
  | _, [], _, [] => True
  | i, .c agg (.v _ t) :: ps, x, v :: vs => shape agg v ∧ RdE (fun k => k < W.heap.size) t W x.1 v.cells.toList ∧ ArgsRd W (i + 1) ps x.2 vs
  | _, _, _, _ => False
def GoodP : (i : Nat) → (ps : List LK) → sdens (num i ps) → Prop
  | _, [], _ => True
  | i, .c _ (.v _ t) :: ps, x => Good t x.1 ∧ GoodP (i + 1) ps x.2
  | _, _, _ => False

def aggB (P : Program) (i : TypeId) : Option Bool :=
  match P.underlying i with
  | some (.struct _) => some true
  | some (.int _) => some false
  | some .bool => some false
  | some .string => some false
  | some (.slice _) => some false
  | _ => none

def paramsOk (P : Program) : List TypeId → List LK → Bool
  | [], [] => true
  | i :: ts, .c agg (.v _ t) :: ps => tyOk P 8 i t && (aggB P i == some agg) && P.readableRec i && decide (i < P.types.size) && paramsOk P ts ps
  | _, _ => false
theorem paramsOk_mut {P : Program} : ∀ {ts : List TypeId} {ps : List LK}, paramsOk P ts ps = true → ps.any LK.mut = false
  | [], [], _ => rfl
  | _ :: ts, .c agg (.v _ t) :: ps, h => by
    simp only [paramsOk, Bool.and_eq_true] at h
    simpa [LK.mut] using paramsOk_mut h.2
  | [], _ :: _, h => by simp [paramsOk] at h
  | _ :: _, [], h => by simp [paramsOk] at h
  | _ :: _, .c _ (.r _ _) :: _, h => by simp [paramsOk] at h
  | _ :: _, .b _ _ :: _, h => by simp [paramsOk] at h
  | _ :: _, .t _ _ :: _, h => by simp [paramsOk] at h

theorem shape_of {W : World} {r : Reach} {b : Nat} {i : TypeId} {v : Value} {agg : Bool} (h : aggB P i = some agg) (hv : Value.okWide P W r b i v) : shape agg v := by
  unfold aggB at h
  split at h
  · rename_i fs hu; injection h with h; subst h; obtain ⟨cs, h1, _⟩ := okWide_struct hu hv; exact ⟨cs, h1⟩
  · rename_i k hu; injection h with h; subst h; obtain ⟨n, rfl⟩ := okWide_int hu hv; rfl
  · rename_i hu; injection h with h; subst h; obtain ⟨n, rfl⟩ := okWide_bool hu hv; rfl
  · rename_i hu; injection h with h; subst h; obtain ⟨n, rfl⟩ := okWide_string hu hv; rfl
  · rename_i e hu; injection h with h; subst h; obtain ⟨a, l, c, rfl⟩ := okWide_slice hu hv; rfl
  · cases h

theorem args_open {H : Type} {enc : TypeId × Value → H} {W : World} {r : Reach} {b : Nat} : ∀ {ts : List TypeId} {ps : List LK} {k : Nat} {vs : List Value} {ds : List (DataW H)} {p : List MemPlace}, paramsOk P ts ps = true → DataW.TrodAll enc P W 0 (fun _ => true) true ts vs ds p →
    (∀ (j : Nat) t v, ts[j]? = some t → vs[j]? = some v → Value.okWide P W r b t v) → ∃ xs : sdens (num k ps), ArgsRd W k ps xs vs ∧ GoodP k ps xs
  | [], [], k, vs, ds, p, _, h, _ => by
    obtain ⟨rfl, _, _⟩ := trodAll_nil h
    exact ⟨(), trivial, trivial⟩
  | i :: ts, .c agg (.v want t) :: ps, k, vs, ds, p, hp, h, hv => by
    simp only [paramsOk, Bool.and_eq_true, beq_iff_eq, decide_eq_true_eq] at hp
    obtain ⟨⟨⟨⟨h1, h2⟩, _⟩, _⟩, h5⟩ := hp
    obtain ⟨v, vs', d, ds', p1, p2, rfl, rfl, rfl, ⟨fuel, hd⟩, hr⟩ := trodAll_cons h
    obtain ⟨xs, k1, k2⟩ := args_open (r := r) (b := b) (k := k + 1) h5 hr (fun j t v hj hv' => hv (j + 1) t v (by simpa using hj) (by simpa using hv'))
    obtain ⟨a, k3, k4⟩ := opens 8 i t h1 H enc W fuel _ _ hd
    exact ⟨(a, xs), ⟨shape_of h2 (hv 0 i v rfl rfl), k3, k1⟩, k4, k2⟩
  | [], _ :: _, _, _, _, _, hp, _, _ => by simp [paramsOk] at hp
  | _ :: _, [], _, _, _, _, hp, _, _ => by simp [paramsOk] at hp
  | _ :: _, .c _ (.r _ _) :: _, _, _, _, _, hp, _, _ => by simp [paramsOk] at hp
  | _ :: _, .b _ _ :: _, _, _, _, _, hp, _, _ => by simp [paramsOk] at hp
  | _ :: _, .t _ _ :: _, _, _, _, _, hp, _, _ => by simp [paramsOk] at hp

/-- The arguments read behind the call as they read before. -/
theorem args_back {H : Type} {enc : TypeId × Value → H} {W W' : World} (hl : laidOutB P = true) (hb : Below W.heap.size W W') : ∀ {ts : List TypeId} {ps : List LK} {vs : List Value} {ds : List (DataW H)} {p : List MemPlace}, paramsOk P ts ps = true → DataW.TrodAll enc P W 0 (fun _ => true) true ts vs ds p →
    DataW.TrodAll enc P W' 0 (fun b => decide (b < W.heap.size)) true ts vs ds p
  | [], [], vs, ds, p, _, h => by
    obtain ⟨rfl, rfl, rfl⟩ := trodAll_nil h
    exact trodAll_mk0
  | i :: ts, .c agg (.v want t) :: ps, vs, ds, p, hp, h => by
    simp only [paramsOk, Bool.and_eq_true, beq_iff_eq, decide_eq_true_eq] at hp
    obtain ⟨⟨⟨⟨h1, h2⟩, h3⟩, h4⟩, h5⟩ := hp
    obtain ⟨v, vs', d, ds', p1, p2, rfl, rfl, rfl, hd, hr⟩ := trodAll_cons h
    exact trodAll_cons_mk (Below.trod hl h3 h4 hd hb (by obtain ⟨fuel, hd⟩ := hd; exact DataW.trod_lt fuel _ _ _ hd)) (args_back hl hb h5 hr)
  | [], _ :: _, _, _, _, hp, _ => by simp [paramsOk] at hp
  | _ :: _, [], _, _, _, hp, _ => by simp [paramsOk] at hp
  | _ :: _, .c _ (.r _ _) :: _, _, _, _, hp, _ => by simp [paramsOk] at hp
  | _ :: _, .b _ _ :: _, _, _, _, hp, _ => by simp [paramsOk] at hp
  | _ :: _, .t _ _ :: _, _, _, _, hp, _ => by simp [paramsOk] at hp

theorem args_sig {c : Cx} (hI : c.I = fun k => k < c.w.heap.size) (hT : c.T = fun k => k < c.w.heap.size) {tA : Array Value} : ∀ {ps : List LK} {i : Nat} {xs : sdens (num i ps)} {vs : List Value}, ArgsRd c.w i ps xs vs → (∀ j y, vs[j]? = some y → tA.getD (i + j) undef = y) → SigRel c tA (num i ps) xs ∧ vs.length = ps.length
  | [], _, _, [], _, _ => ⟨trivial, rfl⟩
  | .c agg (.v want t) :: ps, i, x, v :: vs, ⟨h1, h2, h3⟩, ht => by
    have hS : ∀ b, c.S b = fun k => k < c.w.heap.size := by intro b; unfold Cx.S; cases b <;> simp [hI, hT]
    have h0 : tA.getD i undef = v := ht 0 v rfl
    obtain ⟨k1, k2⟩ := args_sig hI hT (i := i + 1) h3 (fun j y hj => by rw [show i + 1 + j = i + (j + 1) by omega]; exact ht (j + 1) y (by simpa using hj))
    refine ⟨⟨⟨by rw [h0]; exact h1, ?_, ?_⟩, fun g hg => hg.elim, k1⟩, by simp [k2]⟩
    · rw [h0, List.take_of_length_le (by rw [h2.length]; exact Nat.le_refl _), hS]
      exact h2
    · show CKsRel c [] () ((tA.getD i undef).cells.toList.drop t.sz)
      rw [h0, List.drop_eq_nil_of_le (by rw [h2.length]; exact Nat.le_refl _)]
      trivial
  | [], _, _, _ :: _, h, _ => h.elim
  | .c _ (.v _ _) :: _, _, _, [], h, _ => h.elim
  | .c _ (.r _ _) :: _, _, _, _, h, _ => by cases ‹List Value› <;> exact h.elim
  | .b _ _ :: _, _, _, _, h, _ => by cases ‹List Value› <;> exact h.elim
  | .t _ _ :: _, _, _, _, h, _ => by cases ‹List Value› <;> exact h.elim

theorem no_muts : ∀ {ps : List LK} {i : Nat}, ps.any LK.mut = false → mutNums (num i ps) = [] ∧ muts ps = []
  | [], _, _ => ⟨rfl, rfl⟩
  | .c _ (.v _ _) :: ps, i, h => no_muts (ps := ps) (i := i + 1) (by simpa [LK.mut] using h)
  | .c _ (.f _) :: ps, i, h => no_muts (ps := ps) (i := i + 1) (by simpa [LK.mut] using h)
  | .c _ (.g _) :: ps, i, h => no_muts (ps := ps) (i := i + 1) (by simpa [LK.mut] using h)
  | .c _ (.r _ _) :: ps, i, h => by simp [LK.mut] at h
  | .b _ _ :: ps, i, h => by simp [LK.mut] at h
  | .t _ _ :: ps, i, h => by simp [LK.mut] at h

/-- A law's call, out of what the evaluator finds. -/
theorem law_calls {tb : Tb} (htb : tb.ok P) {f : FuncId} {fn : Func} (hla : ∀ code, fn.body = some code → LpAll tb code) (hf : P.funcs[f]? = some fn) {ps : List LK} (hm : ps.any LK.mut = false) {xs : pdens ps} {out : rdens ps [.c false (.v true .bool)]} (ho : out.1 = true) (h : evSig tb fn ps [.c false (.v true .bool)] xs = some out)
    {args : Array Value} {W : World} (ha : ArgsRd W 0 ps xs args.toList) : Calls P f args W fun e w' => e = .returned (.bool true) ∧ Below W.heap.size W w' := by
  let c : Cx := { D := [], I := fun k => k < W.heap.size, T := fun k => k < W.heap.size, w := W, ρ := fun _ => undef, X := fun _ _ => False }
  obtain ⟨hs, hl⟩ := args_sig (c := c) (tA := argTmps fn args) rfl rfl (i := 0) ha (fun j y hj => by
    have hlt : j < args.size := by
      have := (List.getElem?_eq_some_iff.mp hj).1
      rwa [Array.length_toList] at this
    rw [Array.getElem?_toList] at hj
    unfold argTmps
    rw [Nat.zero_add, Array.getD_eq_getD_getElem?, Array.getElem?_append_left hlt, hj]
    rfl)
  refine (evFn_calls (c := c) htb hla hf h (by rw [num_length, ← hl, Array.length_toList]) rfl (fun k hk => hk) (fun k hk => hk) hs (fun g hg => absurd hg (any_num hm))).mono fun e w' hh => ?_
  obtain ⟨c2, vs2, zs, st2, tmps2, rfl, k1, k2, k3, k4, rfl, _⟩ := hh
  split at k1
  rotate_left
  · cases k1
  rename_i ms hms
  split at k1
  rotate_left
  · cases k1
  rename_i hlen
  have hmv := mutVals_rel k2 hms
  rw [(no_muts (ps := ps) (i := 0) hm).1] at hmv
  have hm0 : ms = [] := by
    cases ms with
    | nil => rfl
    | cons _ _ => exact hmv.elim
  subst hm0
  have hrR : Rel c2 { env := (vs2 ++ []).map .one, store := st2.store } zs.toArray := ⟨k2.s, by
    rw [List.append_nil]
    exact All2.map k3⟩
  obtain ⟨ys', c3, g1, g2, g3, g4, g5, g6⟩ := getVals_some k1 hrR
  injection g1 with g1
  subst g1
  refine ⟨?_, ⟨k4.below.os, k4.below.tape, k4.below.output, k4.below.size, fun k hk => k4.agree k hk⟩⟩
  have hz : zs.length = 1 := by rw [← k3.length, hlen]; rfl
  match zs, hz with
  | [y], _ =>
    obtain ⟨⟨s1, s2, _⟩, _⟩ := g5
    have s1' : y.oneCell' = true := s1
    have s2' : y.cells.toList.take 1 = [.bool ys'.1] := s2
    rw [one_cells s1'] at s2'
    simp at s2'
    rw [s2', ho]
    rfl

end
end Go.Proofs.Ytdacfaincamliaa.Ev
