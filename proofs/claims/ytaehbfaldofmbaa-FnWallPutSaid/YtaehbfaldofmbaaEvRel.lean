/- What the evaluator's abstract values say of values and memory, and that it stays. Conditions: none. -/
import Derived.Test.YtaehbfaldofmbaaEvDef
import Derived.Below
import Derived.Laws.CopyRow
import Derived.Laws.OwnMore
import Derived.Laws.AppendOwn
import Derived.Deep.Slices
namespace Go.Proofs.Ytaehbfaldofmbaa.Ev
open Go Go.RowKit

/-! ### Two lists, element by element -/
def All2 {α β : Type} (Rr : α → β → Prop) : List α → List β → Prop
  | [], [] => True
  | a :: as, b :: bs => Rr a b ∧ All2 Rr as bs
  | _, _ => False

section
variable {α β γ : Type} {Rr Rs : α → β → Prop}

theorem All2.length : ∀ {as : List α} {bs : List β}, All2 Rr as bs → as.length = bs.length
  | [], [], _ => rfl
  | _ :: _, _ :: _, h => by simp [All2.length h.2]
  | [], _ :: _, h => h.elim
  | _ :: _, [], h => h.elim
theorem All2.mono (hm : ∀ a b, Rr a b → Rs a b) : ∀ {as : List α} {bs : List β}, All2 Rr as bs → All2 Rs as bs
  | [], [], _ => trivial
  | _ :: _, _ :: _, h => ⟨hm _ _ h.1, All2.mono hm h.2⟩
  | [], _ :: _, h => h.elim
  | _ :: _, [], h => h.elim
theorem All2.get : ∀ {as : List α} {bs : List β}, All2 Rr as bs → ∀ (i : Nat) (a : α), as[i]? = some a → ∃ b, bs[i]? = some b ∧ Rr a b
  | [], [], _, i, a, h => by simp at h
  | x :: as, y :: bs, h, 0, a, ha => by simp at ha; subst ha; exact ⟨y, rfl, h.1⟩
  | x :: as, y :: bs, h, i + 1, a, ha => by simpa using All2.get h.2 i a (by simpa using ha)
  | [], _ :: _, h, _, _, _ => h.elim
  | _ :: _, [], h, _, _, _ => h.elim
theorem All2.getD {as : List α} {bs : List β} (h : All2 Rr as bs) (i : Nat) (da : α) (db : β) (hd : Rr da db) : Rr (as.getD i da) (bs.getD i db) := by
  by_cases hi : i < as.length
  · obtain ⟨b, hb, hr⟩ := h.get i as[i] (by simp [hi])
    simp only [List.getD_eq_getElem?_getD, List.getElem?_eq_getElem hi, hb, Option.getD_some]
    exact hr
  · have hl := h.length
    rw [List.getD_eq_getElem?_getD, List.getD_eq_getElem?_getD, List.getElem?_eq_none (by omega), List.getElem?_eq_none (by omega)]
    exact hd
theorem All2.append : ∀ {as : List α} {bs : List β} {as' : List α} {bs' : List β}, All2 Rr as bs → All2 Rr as' bs' → All2 Rr (as ++ as') (bs ++ bs')
  | [], [], _, _, _, h' => h'
  | _ :: _, _ :: _, _, _, h, h' => ⟨h.1, All2.append h.2 h'⟩
  | [], _ :: _, _, _, h, _ => h.elim
  | _ :: _, [], _, _, h, _ => h.elim
theorem All2.take : ∀ {as : List α} {bs : List β} (n : Nat), All2 Rr as bs → All2 Rr (as.take n) (bs.take n)
  | [], [], n, _ => by simp [All2]
  | _ :: _, _ :: _, 0, _ => trivial
  | _ :: _, _ :: _, n + 1, h => ⟨h.1, All2.take n h.2⟩
  | [], _ :: _, _, h => h.elim
  | _ :: _, [], _, h => h.elim
theorem All2.drop : ∀ {as : List α} {bs : List β} (n : Nat), All2 Rr as bs → All2 Rr (as.drop n) (bs.drop n)
  | [], [], n, _ => by simp [All2]
  | _ :: _, _ :: _, 0, h => h
  | _ :: _, _ :: _, n + 1, h => by simpa using All2.drop n h.2
  | [], _ :: _, _, h => h.elim
  | _ :: _, [], _, h => h.elim
theorem All2.set : ∀ {as : List α} {bs : List β} (i : Nat) {a : α} {b : β}, All2 Rr as bs → Rr a b → All2 Rr (as.set i a) (bs.set i b)
  | [], [], _, _, _, _, _ => by simp [All2]
  | _ :: _, _ :: _, 0, _, _, h, hr => ⟨hr, h.2⟩
  | _ :: _, _ :: _, i + 1, _, _, h, hr => ⟨h.1, All2.set i h.2 hr⟩
  | [], _ :: _, _, _, _, h, _ => h.elim
  | _ :: _, [], _, _, _, h, _ => h.elim
theorem All2.replicate {a : α} {b : β} (h : Rr a b) : ∀ n, All2 Rr (List.replicate n a) (List.replicate n b)
  | 0 => trivial
  | n + 1 => ⟨h, All2.replicate h n⟩
theorem All2.map {f : γ → α} : ∀ {as : List γ} {bs : List β}, All2 (fun a b => Rr (f a) b) as bs → All2 Rr (as.map f) bs
  | [], [], _ => trivial
  | _ :: _, _ :: _, h => ⟨h.1, All2.map h.2⟩
  | [], _ :: _, h => h.elim
  | _ :: _, [], h => h.elim
theorem All2.unmap {f : γ → α} : ∀ {as : List γ} {bs : List β}, All2 Rr (as.map f) bs → All2 (fun a b => Rr (f a) b) as bs
  | [], [], _ => trivial
  | _ :: _, _ :: _, h => ⟨h.1, All2.unmap h.2⟩
  | [], _ :: _, h => h.elim
  | _ :: _, [], h => h.elim
/-- The mono that knows its members. -/
theorem All2.mono_mem : ∀ {as : List α} {bs : List β}, (∀ a, a ∈ as → ∀ b, Rr a b → Rs a b) → All2 Rr as bs → All2 Rs as bs
  | [], [], _, _ => trivial
  | _ :: _, _ :: _, hm, h => ⟨hm _ (by simp) _ h.1, All2.mono_mem (fun a ha b hb => hm a (by simp [ha]) b hb) h.2⟩
  | [], _ :: _, _, h => h.elim
  | _ :: _, [], _, h => h.elim
theorem All2.append_inv : ∀ {as as' : List α} {bs : List β}, All2 Rr (as ++ as') bs → ∃ b1 b2, bs = b1 ++ b2 ∧ All2 Rr as b1 ∧ All2 Rr as' b2
  | [], _, bs, h => ⟨[], bs, rfl, trivial, h⟩
  | a :: as, as', b :: bs, h => by
    obtain ⟨b1, b2, rfl, h1, h2⟩ := All2.append_inv (as := as) h.2
    exact ⟨b :: b1, b2, rfl, ⟨h.1, h1⟩, h2⟩
  | _ :: _, _, [], h => h.elim
end

/-! ### What can be read -/
def agree (S : Nat → Prop) (w w' : World) : Prop := ∀ k, S k → w'.heap[k]? = w.heap[k]?
theorem agree.refl (S : Nat → Prop) (w : World) : agree S w w := fun _ _ => rfl
theorem agree.trans {S : Nat → Prop} {a b c : World} (h : agree S a b) (k : agree S b c) : agree S a c := fun i hi => (k i hi).trans (h i hi)
theorem agree.mono {S S' : Nat → Prop} {a b : World} (h : agree S a b) (hs : ∀ k, S' k → S k) : agree S' a b := fun i hi => h i (hs i hi)

def RdRow {α : Type} (S : Nat → Prop) (Rr : α → List Value → Prop) (sz : Nat) (w : World) (A : Option Addr) (xs : List α) : Prop :=
  xs.length ≤ 9223372036854775807 ∧ (0 < xs.length → ∃ ad, A = some ad ∧ S ad.block ∧ ∀ j x, xs[j]? = some x → ∃ c, c.length = sz ∧ Rr x c ∧ ∀ i u, c[i]? = some u → w.cell? (ad.add (j * sz + i)) = some u)

/-- An element's cells, all that they lead to lying in blocks of S. -/
def RdE (S : Nat → Prop) : (t : Ty) → World → t.den → List Value → Prop
  | .int k, _, n, cs => cs = [.int k n]
  | .bool, _, b, cs => cs = [.bool b]
  | .str, _, s, cs => cs = [.string s]
  | .rs _ t, w, xs, cs => ∃ A c, cs = [.slice A xs.length c] ∧ xs.length ≤ c ∧ RdRow S (RdE S t w) t.sz w A xs
  | .pair a b, w, p, cs => ∃ c0 c1, cs = c0 ++ c1 ∧ RdE S a w p.1 c0 ∧ RdE S b w p.2 c1

theorem RdE.length {S : Nat → Prop} : ∀ {t : Ty} {w : World} {x : t.den} {cs : List Value}, RdE S t w x cs → cs.length = t.sz
  | .int _, _, _, _, h => by rw [show _ = _ from h]; rfl
  | .bool, _, _, _, h => by rw [show _ = _ from h]; rfl
  | .str, _, _, _, h => by rw [show _ = _ from h]; rfl
  | .rs _ _, _, _, _, ⟨_, _, h, _⟩ => by rw [h]; rfl
  | .pair a b, _, _, _, ⟨_, _, h, h0, h1⟩ => by rw [h, List.length_append, RdE.length h0, RdE.length h1]; rfl
theorem RdE.one {S : Nat → Prop} : ∀ {t : Ty} {w : World} {x : t.den} {cs : List Value}, RdE S t w x cs → ∀ u ∈ cs, u.oneCell' = true
  | .int _, _, _, _, h, u, hu => by rw [show _ = _ from h] at hu; simp at hu; subst hu; rfl
  | .bool, _, _, _, h, u, hu => by rw [show _ = _ from h] at hu; simp at hu; subst hu; rfl
  | .str, _, _, _, h, u, hu => by rw [show _ = _ from h] at hu; simp at hu; subst hu; rfl
  | .rs _ _, _, _, _, ⟨_, _, h, _⟩, u, hu => by rw [h] at hu; simp at hu; subst hu; rfl
  | .pair a b, _, _, _, ⟨_, _, h, h0, h1⟩, u, hu => by
    rw [h, List.mem_append] at hu
    rcases hu with hu | hu
    · exact RdE.one h0 u hu
    · exact RdE.one h1 u hu

theorem add_block (a : Addr) (n : Nat) : (a.add n).block = a.block := by unfold Addr.add; split <;> rfl
theorem agree.cell {S : Nat → Prop} {w w' : World} (h : agree S w w') {a : Addr} (ha : S a.block) : w'.cell? a = w.cell? a := World.cell?_of_block (h _ ha)

theorem RdRow.imp {α : Type} {S S' : Nat → Prop} {Rr Rs : α → List Value → Prop} {sz : Nat} {w w' : World} {A : Option Addr} {xs : List α} (h : RdRow S Rr sz w A xs) (hR : ∀ x c, Rr x c → Rs x c) (hS : ∀ k, S k → S' k) (ha : agree S w w') : RdRow S' Rs sz w' A xs := by
  refine ⟨h.1, fun h0 => ?_⟩
  obtain ⟨ad, h1, h2, h3⟩ := h.2 h0
  refine ⟨ad, h1, hS _ h2, fun j x hj => ?_⟩
  obtain ⟨c, h4, h5, h6⟩ := h3 j x hj
  exact ⟨c, h4, hR _ _ h5, fun i u hu => (ha.cell (by rw [add_block]; exact h2)).trans (h6 i u hu)⟩

theorem RdE.step {S S' : Nat → Prop} {w w' : World} (ha : agree S w w') (hS : ∀ k, S k → S' k) : ∀ {t : Ty} {x : t.den} {cs : List Value}, RdE S t w x cs → RdE S' t w' x cs
  | .int _, _, _, h => h
  | .bool, _, _, h => h
  | .str, _, _, h => h
  | .rs _ _, _, _, ⟨A, c, h, hl, hr⟩ => ⟨A, c, h, hl, hr.imp (fun _ _ => RdE.step ha hS) hS ha⟩
  | .pair _ _, _, _, ⟨c0, c1, h, h0, h1⟩ => ⟨c0, c1, h, RdE.step ha hS h0, RdE.step ha hS h1⟩

/-- A slice that reads so as long as the blocks of S stay. -/
def PRow (S : Nat → Prop) (w : World) (t : Ty) (A : Option Addr) (xs : List t.den) : Prop := RdRow S (RdE S t w) t.sz w A xs
/-- An element, from its cell number off on, at an address. -/
def PEl (S : Nat → Prop) (w : World) (t : Ty) (x : t.den) (off : Nat) (ad : Addr) : Prop :=
  S ad.block ∧ ∃ c, RdE S t w x c ∧ ∀ i u, c[off + i]? = some u → w.cell? (ad.add i) = some u

theorem PRow.step {S S' : Nat → Prop} {w w' : World} {t : Ty} {A : Option Addr} {xs : List t.den} (h : PRow S w t A xs) (ha : agree S w w') (hS : ∀ k, S k → S' k) : PRow S' w' t A xs := RdRow.imp h (fun _ _ => RdE.step ha hS) hS ha
theorem PEl.step {S S' : Nat → Prop} {w w' : World} {t : Ty} {x : t.den} {off : Nat} {ad : Addr} (h : PEl S w t x off ad) (ha : agree S w w') (hS : ∀ k, S k → S' k) : PEl S' w' t x off ad := by
  obtain ⟨h1, c, h2, h3⟩ := h
  exact ⟨hS _ h1, c, h2.step ha hS, fun i u hu => (ha.cell (by rw [add_block]; exact h1)).trans (h3 i u hu)⟩

/-! ### What the abstract values say -/
structure Cx where
  D : List Nat
  I : Nat → Prop
  T : Nat → Prop
  w : World
  ρ : Nat → Value

def Cx.S (c : Cx) (lt : Bool) : Nat → Prop := if lt then c.I else c.T

def leafRel (c : Cx) : Leaf → Value → Prop
  | .v x, y => y = x ∧ Value.oneCell' x = true
  | .rd lt _ t xs, y => ∃ A n, y = .slice A xs.length n ∧ xs.length ≤ n ∧ PRow (c.S lt) c.w t A xs
  | .own id, y => id ∈ c.D ∧ y = c.ρ id ∧ Value.oneCell' y = true
  | .ptr id off, y => id ∈ c.D ∧ ∃ g, c.ρ id = .pointer (some ⟨g, 0, none⟩) ∧ y = .pointer (some ⟨g, off, none⟩)
  | .elp id sz i off, y => id ∈ c.D ∧ ∃ g n m, c.ρ id = .slice (some ⟨g, 0, none⟩) n m ∧ y = .pointer (some ⟨g, i * sz + off, none⟩)
  | .rdp lt t x off, y => ∃ ad, y = .pointer (some ad) ∧ PEl (c.S lt) c.w t x off ad
  | .dead, y => y.oneCell' = true

def v1Rel (c : Cx) : V1 → Value → Prop
  | .lf l, y => leafRel c l y
  | .agg ls, y => ∃ cs, y = .agg cs ∧ All2 (leafRel c) ls cs.toList

def avRel (c : Cx) : AV → Value → Prop
  | .one v, y => v1Rel c v y
  | .tup vs, y => ∃ ws, y = .tuple ws ∧ All2 (v1Rel c) vs ws.toList
  | .fn f caps, y => ∃ cs, y = .func (.func f) #[] cs ∧ All2 (leafRel c) caps cs.toList
  | .dead, _ => True

def blk : Value → Option Nat
  | .pointer (some a) => some a.block
  | .slice (some a) _ _ => some a.block
  | _ => none

def entRel (c : Cx) (id : Nat) : Ent → Prop
  | .box t cells => ∃ g conc, c.ρ id = .pointer (some ⟨g, 0, none⟩) ∧ ¬ c.T g ∧ c.w.heap[g]? = some (.cells conc t (0, 0)) ∧ All2 (leafRel c) cells conc.toList
  | .row e t xs => ∃ inner, c.w.ownsRow 0 e t.sz (c.ρ id) xs.length inner ∧ (∀ g, blk (c.ρ id) = some g → ¬ c.T g) ∧ All2 (leafRel c) (xs.flatMap (leaves true t)) inner
  | .lrow e t n cells => ∃ inner, c.w.ownsRow 0 e t.sz (c.ρ id) n inner ∧ (∀ g, blk (c.ρ id) = some g → ¬ c.T g) ∧ All2 (leafRel c) cells inner
def isRow : Ent → Bool
  | .box _ _ => false
  | _ => true

structure SRel (c : Cx) (store : List (Nat × Ent)) : Prop where
  ids : c.D = store.map (·.1)
  nodup : c.D.Nodup
  ent : ∀ id e, (id, e) ∈ store → entRel c id e
  apart : ∀ i j g, i ∈ c.D → j ∈ c.D → i ≠ j → blk (c.ρ i) = some g → blk (c.ρ j) ≠ some g
  sub : ∀ k, c.I k → c.T k
  lt : ∀ k, c.T k → k < c.w.heap.size

structure Rel (c : Cx) (st : St) (tmps : Array Value) : Prop where
  s : SRel c st.store
  env : All2 (avRel c) st.env tmps.toList

/-- How one state of things comes from another: what was to stay has stayed. -/
structure Step (c c' : Cx) : Prop where
  below : Below 0 c.w c'.w
  agree : agree c.T c.w c'.w
  T : ∀ k, c.T k → c'.T k
  I : ∀ k, c.I k → c'.I k
  new : ∀ k, c'.I k → c.I k ∨ ¬ c.T k

theorem Step.refl (c : Cx) : Step c c := ⟨Below.refl _ _, agree.refl _ _, fun _ h => h, fun _ h => h, fun _ h => .inl h⟩
theorem Step.trans {a b c : Cx} (h : Step a b) (k : Step b c) : Step a c :=
  ⟨h.below.trans k.below, h.agree.trans (k.agree.mono h.T), fun i hi => k.T i (h.T i hi), fun i hi => k.I i (h.I i hi), fun i hi => by
    rcases k.new i hi with h1 | h1
    · exact h.new i h1
    · exact .inr fun h2 => h1 (h.T i h2)⟩

/-! ### What stays -/
theorem leafRel.move {c c' : Cx} (hT : Go.Proofs.Ytaehbfaldofmbaa.Ev.agree c.T c.w c'.w) (hsub : ∀ k, c.I k → c.T k) (hTT : ∀ k, c.T k → c'.T k) (hII : ∀ k, c.I k → c'.I k) {l : Leaf} {y : Value}
    (hD : ∀ i, i ∈ idsL l → i ∈ c.D → i ∈ c'.D ∧ c'.ρ i = c.ρ i) (h : leafRel c l y) : leafRel c' l y := by
  have hS : ∀ lt k, c.S lt k → c'.S lt k := by intro lt k; unfold Cx.S; cases lt <;> simp <;> first | exact hTT k | exact hII k
  have hA : ∀ lt, Go.Proofs.Ytaehbfaldofmbaa.Ev.agree (c.S lt) c.w c'.w := by
    intro lt; unfold Cx.S; cases lt
    · exact hT
    · exact hT.mono hsub
  cases l with
  | v x => exact h
  | rd lt e t xs =>
    obtain ⟨A, n, h1, h2, h3⟩ := h
    exact ⟨A, n, h1, h2, h3.step (hA lt) (hS lt)⟩
  | own id =>
    obtain ⟨h1, h2, h3⟩ := h
    obtain ⟨h4, h5⟩ := hD id (by simp [idsL]) h1
    exact ⟨h4, by rw [h5]; exact h2, h3⟩
  | ptr id off =>
    obtain ⟨h1, g, h2, h3⟩ := h
    obtain ⟨h4, h5⟩ := hD id (by simp [idsL]) h1
    exact ⟨h4, g, by rw [h5]; exact h2, h3⟩
  | elp id sz i off =>
    obtain ⟨h1, g, n, m, h2, h3⟩ := h
    obtain ⟨h4, h5⟩ := hD id (by simp [idsL]) h1
    exact ⟨h4, g, n, m, by rw [h5]; exact h2, h3⟩
  | rdp lt t x off =>
    obtain ⟨ad, h1, h2⟩ := h
    exact ⟨ad, h1, h2.step (hA lt) (hS lt)⟩
  | dead => exact h

theorem leaf_one {c : Cx} {l : Leaf} {y : Value} (h : leafRel c l y) : y.oneCell' = true := by
  cases l with
  | v x => rw [h.1]; exact h.2
  | rd lt e t xs => obtain ⟨A, n, h1, _⟩ := h; rw [h1]; rfl
  | own id => exact h.2.2
  | ptr id off => obtain ⟨_, g, _, h1⟩ := h; rw [h1]; rfl
  | elp id sz i off => obtain ⟨_, g, n, m, _, h1⟩ := h; rw [h1]; rfl
  | rdp lt t x off => obtain ⟨ad, h1, _⟩ := h; rw [h1]; rfl
  | dead => exact h
theorem one_cells {y : Value} (h : y.oneCell' = true) : y.cells = #[y] := by cases y <;> first | rfl | simp [Value.oneCell'] at h
theorem all2_one {c : Cx} : ∀ {ls : List Leaf} {cs : List Value}, All2 (leafRel c) ls cs → ∀ u ∈ cs, u.oneCell' = true
  | [], [], _, _, hu => by cases hu
  | _ :: _, _ :: _, h, u, hu => by
    rcases List.mem_cons.mp hu with rfl | hu
    · exact leaf_one h.1
    · exact all2_one h.2 u hu
  | [], _ :: _, h, _, _ => h.elim
  | _ :: _, [], h, _, _ => h.elim

theorem v1Rel.imp {c c' : Cx} (hm : ∀ l y, leafRel c l y → leafRel c' l y) {v : V1} {y : Value} (h : v1Rel c v y) : v1Rel c' v y := by
  cases v with
  | lf l => exact hm _ _ h
  | agg ls => obtain ⟨cs, h1, h2⟩ := h; exact ⟨cs, h1, h2.mono hm⟩
theorem avRel.imp {c c' : Cx} (hm : ∀ l y, leafRel c l y → leafRel c' l y) {v : AV} {y : Value} (h : avRel c v y) : avRel c' v y := by
  cases v with
  | one v => exact v1Rel.imp hm h
  | tup vs => obtain ⟨ws, h1, h2⟩ := h; exact ⟨ws, h1, h2.mono fun _ _ => v1Rel.imp hm⟩
  | fn f caps => obtain ⟨cs, h1, h2⟩ := h; exact ⟨cs, h1, h2.mono hm⟩
  | dead => trivial
/-- Leaves turned by f. -/
theorem v1Rel.impf {c c' : Cx} {f : Leaf → Leaf} (hm : ∀ l y, leafRel c l y → leafRel c' (f l) y) {v : V1} {y : Value} (h : v1Rel c v y) : v1Rel c' (mapV f v) y := by
  cases v with
  | lf l => exact hm _ _ h
  | agg ls => obtain ⟨cs, h1, h2⟩ := h; exact ⟨cs, h1, All2.map (h2.mono hm)⟩
theorem avRel.impf {c c' : Cx} {f : Leaf → Leaf} (hm : ∀ l y, leafRel c l y → leafRel c' (f l) y) {v : AV} {y : Value} (h : avRel c v y) : avRel c' (mapA f v) y := by
  cases v with
  | one v => exact v1Rel.impf hm h
  | tup vs => obtain ⟨ws, h1, h2⟩ := h; exact ⟨ws, h1, All2.map (h2.mono fun _ _ => v1Rel.impf hm)⟩
  | fn f caps => obtain ⟨cs, h1, h2⟩ := h; exact ⟨cs, h1, All2.map (h2.mono hm)⟩
  | dead => trivial

/-- Leaves without numbers. -/
theorem idsL_leaves (lt : Bool) : ∀ (t : Ty) (x : t.den) (l : Leaf), l ∈ leaves lt t x → idsL l = []
  | .int _, _, l, h => by simp [leaves] at h; subst h; rfl
  | .bool, _, l, h => by simp [leaves] at h; subst h; rfl
  | .str, _, l, h => by simp [leaves] at h; subst h; rfl
  | .rs _ _, _, l, h => by simp [leaves] at h; subst h; rfl
  | .pair a b, x, l, h => by
    simp only [leaves, List.mem_append] at h
    rcases h with h | h
    · exact idsL_leaves lt a x.1 l h
    · exact idsL_leaves lt b x.2 l h
theorem leaves_length (lt : Bool) : ∀ (t : Ty) (x : t.den), (leaves lt t x).length = t.sz
  | .int _, _ => rfl
  | .bool, _ => rfl
  | .str, _ => rfl
  | .rs _ _, _ => rfl
  | .pair a b, x => by simp [leaves, leaves_length lt a, leaves_length lt b, Ty.sz]


/-- An element's leaves, out of its cells. -/
theorem leaves_rel {c : Cx} (lt : Bool) : ∀ {t : Ty} {x : t.den} {cs : List Value}, RdE (c.S lt) t c.w x cs → All2 (leafRel c) (leaves lt t x) cs
  | .int _, _, _, h => by rw [show _ = _ from h]; exact ⟨⟨rfl, rfl⟩, trivial⟩
  | .bool, _, _, h => by rw [show _ = _ from h]; exact ⟨⟨rfl, rfl⟩, trivial⟩
  | .str, _, _, h => by rw [show _ = _ from h]; exact ⟨⟨rfl, rfl⟩, trivial⟩
  | .rs _ _, _, _, ⟨A, n, h, hl, hr⟩ => by rw [h]; exact ⟨⟨A, n, rfl, hl, hr⟩, trivial⟩
  | .pair _ _, _, _, ⟨c0, c1, h, h0, h1⟩ => by rw [h]; exact (leaves_rel lt h0).append (leaves_rel lt h1)
/-- And back. -/
theorem rel_leaves {c : Cx} (lt : Bool) : ∀ {t : Ty} {x : t.den} {cs : List Value}, All2 (leafRel c) (leaves lt t x) cs → RdE (c.S lt) t c.w x cs
  | .int _, _, [y], h => by show _ = _; rw [h.1.1]
  | .bool, _, [y], h => by show _ = _; rw [h.1.1]
  | .str, _, [y], h => by show _ = _; rw [h.1.1]
  | .rs _ _, _, [y], h => by obtain ⟨A, n, h1, h2, h3⟩ := h.1; exact ⟨A, n, by rw [h1], h2, h3⟩
  | .pair a b, x, cs, h => by
    obtain ⟨b1, b2, e, h1, h2⟩ := All2.append_inv (as := leaves lt a x.1) (as' := leaves lt b x.2) h
    exact ⟨b1, b2, e, rel_leaves lt h1, rel_leaves lt h2⟩
  | .int _, _, [], h => h.elim
  | .bool, _, [], h => h.elim
  | .str, _, [], h => h.elim
  | .rs _ _, _, [], h => h.elim
  | .int _, _, _ :: _ :: _, h => h.2.elim
  | .bool, _, _ :: _ :: _, h => h.2.elim
  | .str, _, _ :: _ :: _, h => h.2.elim
  | .rs _ _, _, _ :: _ :: _, h => h.2.elim

end Go.Proofs.Ytaehbfaldofmbaa.Ev
