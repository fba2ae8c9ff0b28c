/- What the evaluator's abstract values say of values and memory, and that it stays. Conditions: none. -/
import Derived.Test.YtdacfaincamliaaEvDef
import Derived.Below
import Derived.Laws.CopyRow
import Derived.Laws.OwnMore
import Derived.Laws.AppendOwn
import Derived.Deep.Slices
namespace Go.Proofs.Ytdacfaincamliaa.Ev
open Go Go.RowKit

/-! ### Two lists, element by element -/
def All2 {α β : Type} (Rr : α → β → Prop) : List α → List β → Prop
  | [], [] => True
  | a :: as, b :: bs => Rr a b ∧ All2 Rr as bs
  | _, _ => False

section
variable {α β γ : Type} {Rr Rs : α → β → Prop}

theorem All2.length : ∀ {as : List α} {bs : List β}, All2 Rr as bs → as.length = bs.length
  | [], [], _ => rfl
  | _ :: _, _ :: _, h => by simp [All2.length h.2]
  | [], _ :: _, h => h.elim
  | _ :: _, [], h => h.elim
theorem All2.mono (hm : ∀ a b, Rr a b → Rs a b) : ∀ {as : List α} {bs : List β}, All2 Rr as bs → All2 Rs as bs
  | [], [], _ => trivial
  | _ :: _, _ :: _, h => ⟨hm _ _ h.1, All2.mono hm h.2⟩
  | [], _ :: _, h => h.elim
  | _ :: _, [], h => h.elim
theorem All2.get : ∀ {as : List α} {bs : List β}, All2 Rr as bs → ∀ (i : Nat) (a : α), as[i]? = some a → ∃ b, bs[i]? = some b ∧ Rr a b
  | [], [], _, i, a, h => by simp at h
  | x :: as, y :: bs, h, 0, a, ha => by simp at ha; subst ha; exact ⟨y, rfl, h.1⟩
  | x :: as, y :: bs, h, i + 1, a, ha => by simpa using All2.get h.2 i a (by simpa using ha)
  | [], _ :: _, h, _, _, _ => h.elim
  | _ :: _, [], h, _, _, _ => h.elim
theorem All2.getD {as : List α} {bs : List β} (h : All2 Rr as bs) (i : Nat) (da : α) (db : β) (hd : Rr da db) : Rr (as.getD i da) (bs.getD i db) := by
  by_cases hi : i < as.length
  · obtain ⟨b, hb, hr⟩ := h.get i as[i] (by simp [hi])
    simp only [List.getD_eq_getElem?_getD, List.getElem?_eq_getElem hi, hb, Option.getD_some]
    exact hr
  · have hl := h.length
    rw [List.getD_eq_getElem?_getD, List.getD_eq_getElem?_getD, List.getElem?_eq_none (by omega), List.getElem?_eq_none (by omega)]
    exact hd
theorem All2.append : ∀ {as : List α} {bs : List β} {as' : List α} {bs' : List β}, All2 Rr as bs → All2 Rr as' bs' → All2 Rr (as ++ as') (bs ++ bs')
  | [], [], _, _, _, h' => h'
  | _ :: _, _ :: _, _, _, h, h' => ⟨h.1, All2.append h.2 h'⟩
  | [], _ :: _, _, _, h, _ => h.elim
  | _ :: _, [], _, _, h, _ => h.elim
theorem All2.take : ∀ {as : List α} {bs : List β} (n : Nat), All2 Rr as bs → All2 Rr (as.take n) (bs.take n)
  | [], [], n, _ => by simp [All2]
  | _ :: _, _ :: _, 0, _ => trivial
  | _ :: _, _ :: _, n + 1, h => ⟨h.1, All2.take n h.2⟩
  | [], _ :: _, _, h => h.elim
  | _ :: _, [], _, h => h.elim
theorem All2.drop : ∀ {as : List α} {bs : List β} (n : Nat), All2 Rr as bs → All2 Rr (as.drop n) (bs.drop n)
  | [], [], n, _ => by simp [All2]
  | _ :: _, _ :: _, 0, h => h
  | _ :: _, _ :: _, n + 1, h => by simpa using All2.drop n h.2
  | [], _ :: _, _, h => h.elim
  | _ :: _, [], _, h => h.elim
theorem All2.set : ∀ {as : List α} {bs : List β} (i : Nat) {a : α} {b : β}, All2 Rr as bs → Rr a b → All2 Rr (as.set i a) (bs.set i b)
  | [], [], _, _, _, _, _ => by simp [All2]
  | _ :: _, _ :: _, 0, _, _, h, hr => ⟨hr, h.2⟩
  | _ :: _, _ :: _, i + 1, _, _, h, hr => ⟨h.1, All2.set i h.2 hr⟩
  | [], _ :: _, _, _, _, h, _ => h.elim
  | _ :: _, [], _, _, _, h, _ => h.elim
theorem All2.replicate {a : α} {b : β} (h : Rr a b) : ∀ n, All2 Rr (List.replicate n a) (List.replicate n b)
  | 0 => trivial
  | n + 1 => ⟨h, All2.replicate h n⟩
theorem All2.map {f : γ → α} : ∀ {as : List γ} {bs : List β}, All2 (fun a b => Rr (f a) b) as bs → All2 Rr (as.map f) bs
  | [], [], _ => trivial
  | _ :: _, _ :: _, h => ⟨h.1, All2.map h.2⟩
  | [], _ :: _, h => h.elim
  | _ :: _, [], h => h.elim
theorem All2.unmap {f : γ → α} : ∀ {as : List γ} {bs : List β}, All2 Rr (as.map f) bs → All2 (fun a b => Rr (f a) b) as bs
  | [], [], _ => trivial
  | _ :: _, _ :: _, h => ⟨h.1, All2.unmap h.2⟩
  | [], _ :: _, h => h.elim
  | _ :: _, [], h => h.elim
/-- The mono that knows its members. -/
theorem All2.mono_mem : ∀ {as : List α} {bs : List β}, (∀ a, a ∈ as → ∀ b, Rr a b → Rs a b) → All2 Rr as bs → All2 Rs as bs
  | [], [], _, _ => trivial
  | _ :: _, _ :: _, hm, h => ⟨hm _ (by simp) _ h.1, All2.mono_mem (fun a ha b hb => hm a (by simp [ha]) b hb) h.2⟩
  | [], _ :: _, _, h => h.elim
  | _ :: _, [], _, h => h.elim
theorem All2.append_inv : ∀ {as as' : List α} {bs : List β}, All2 Rr (as ++ as') bs → ∃ b1 b2, bs = b1 ++ b2 ∧ All2 Rr as b1 ∧ All2 Rr as' b2
  | [], _, bs, h => ⟨[], bs, rfl, trivial, h⟩
  | a :: as, as', b :: bs, h => by
    obtain ⟨b1, b2, rfl, h1, h2⟩ := All2.append_inv (as := as) h.2
    exact ⟨b :: b1, b2, rfl, ⟨h.1, h1⟩, h2⟩
  | _ :: _, _, [], h => h.elim
end

/-! ### What can be read -/
def agree (S : Nat → Prop) (w w' : World) : Prop := ∀ k, S k → w'.heap[k]? = w.heap[k]?
theorem agree.refl (S : Nat → Prop) (w : World) : agree S w w := fun _ _ => rfl
theorem agree.trans {S : Nat → Prop} {a b c : World} (h : agree S a b) (k : agree S b c) : agree S a c := fun i hi => (k i hi).trans (h i hi)
theorem agree.mono {S S' : Nat → Prop} {a b : World} (h : agree S a b) (hs : ∀ k, S' k → S k) : agree S' a b := fun i hi => h i (hs i hi)

def RdRow {α : Type} (S : Nat → Prop) (Rr : α → List Value → Prop) (sz : Nat) (w : World) (A : Option Addr) (xs : List α) : Prop :=
  xs.length ≤ 9223372036854775807 ∧ (0 < xs.length → ∃ ad, A = some ad ∧ S ad.block ∧ ∀ j x, xs[j]? = some x → ∃ c, c.length = sz ∧ Rr x c ∧ ∀ i u, c[i]? = some u → w.cell? (ad.add (j * sz + i)) = some u)

/-- An element's cells, all that they lead to lying in blocks of S. -/
def RdE (S : Nat → Prop) : (t : Ty) → World → t.den → List Value → Prop
  | .int k, _, n, cs => cs = [.int k n]
  | .bool, _, b, cs => cs = [.bool b]
  | .str, _, s, cs => cs = [.string s]
  | .rs _ t, w, xs, cs => ∃ A c, cs = [.slice A xs.length c] ∧ xs.length ≤ c ∧ RdRow S (RdE S t w) t.sz w A xs
  | .pair a b, w, p, cs => ∃ c0 c1, cs = c0 ++ c1 ∧ RdE S a w p.1 c0 ∧ RdE S b w p.2 c1

theorem RdE.length {S : Nat → Prop} : ∀ {t : Ty} {w : World} {x : t.den} {cs : List Value}, RdE S t w x cs → cs.length = t.sz
  | .int _, _, _, _, h => by rw [show _ = _ from h]; rfl
  | .bool, _, _, _, h => by rw [show _ = _ from h]; rfl
  | .str, _, _, _, h => by rw [show _ = _ from h]; rfl
  | .rs _ _, _, _, _, ⟨_, _, h, _⟩ => by rw [h]; rfl
  | .pair a b, _, _, _, ⟨_, _, h, h0, h1⟩ => by rw [h, List.length_append, RdE.length h0, RdE.length h1]; rfl
theorem RdE.one {S : Nat → Prop} : ∀ {t : Ty} {w : World} {x : t.den} {cs : List Value}, RdE S t w x cs → ∀ u ∈ cs, u.oneCell' = true
  | .int _, _, _, _, h, u, hu => by rw [show _ = _ from h] at hu; simp at hu; subst hu; rfl
  | .bool, _, _, _, h, u, hu => by rw [show _ = _ from h] at hu; simp at hu; subst hu; rfl
  | .str, _, _, _, h, u, hu => by rw [show _ = _ from h] at hu; simp at hu; subst hu; rfl
  | .rs _ _, _, _, _, ⟨_, _, h, _⟩, u, hu => by rw [h] at hu; simp at hu; subst hu; rfl
  | .pair a b, _, _, _, ⟨_, _, h, h0, h1⟩, u, hu => by
    rw [h, List.mem_append] at hu
    rcases hu with hu | hu
    · exact RdE.one h0 u hu
    · exact RdE.one h1 u hu

theorem add_block (a : Addr) (n : Nat) : (a.add n).block = a.block := by unfold Addr.add; split <;> rfl
theorem agree.cell {S : Nat → Prop} {w w' : World} (h : agree S w w') {a : Addr} (ha : S a.block) : w'.cell? a = w.cell? a := World.cell?_of_block (h _ ha)

theorem RdRow.imp {α : Type} {S S' : Nat → Prop} {Rr Rs : α → List Value → Prop} {sz : Nat} {w w' : World} {A : Option Addr} {xs : List α} (h : RdRow S Rr sz w A xs) (hR : ∀ x c, Rr x c → Rs x c) (hS : ∀ k, S k → S' k) (ha : agree S w w') : RdRow S' Rs sz w' A xs := by
  refine ⟨h.1, fun h0 => ?_⟩
  obtain ⟨ad, h1, h2, h3⟩ := h.2 h0
  refine ⟨ad, h1, hS _ h2, fun j x hj => ?_⟩
  obtain ⟨c, h4, h5, h6⟩ := h3 j x hj
  exact ⟨c, h4, hR _ _ h5, fun i u hu => (ha.cell (by rw [add_block]; exact h2)).trans (h6 i u hu)⟩

theorem RdE.step {S S' : Nat → Prop} {w w' : World} (ha : agree S w w') (hS : ∀ k, S k → S' k) : ∀ {t : Ty} {x : t.den} {cs : List Value}, RdE S t w x cs → RdE S' t w' x cs
  | .int _, _, _, h => h
  | .bool, _, _, h => h
  | .str, _, _, h => h
  | .rs _ _, _, _, ⟨A, c, h, hl, hr⟩ => ⟨A, c, h, hl, hr.imp (fun _ _ => RdE.step ha hS) hS ha⟩
  | .pair _ _, _, _, ⟨c0, c1, h, h0, h1⟩ => ⟨c0, c1, h, RdE.step ha hS h0, RdE.step ha hS h1⟩

/-- A slice that reads so as long as the blocks of S stay. -/
def PRow (S : Nat → Prop) (w : World) (t : Ty) (A : Option Addr) (xs : List t.den) : Prop := RdRow S (RdE S t w) t.sz w A xs
/-- An element, from its cell number off on, at an address. -/
def PEl (S : Nat → Prop) (w : World) (t : Ty) (x : t.den) (off : Nat) (ad : Addr) : Prop :=
  S ad.block ∧ ∃ c, RdE S t w x c ∧ ∀ i u, c[off + i]? = some u → w.cell? (ad.add i) = some u

theorem PRow.step {S S' : Nat → Prop} {w w' : World} {t : Ty} {A : Option Addr} {xs : List t.den} (h : PRow S w t A xs) (ha : agree S w w') (hS : ∀ k, S k → S' k) : PRow S' w' t A xs := RdRow.imp h (fun _ _ => RdE.step ha hS) hS ha
theorem PEl.step {S S' : Nat → Prop} {w w' : World} {t : Ty} {x : t.den} {off : Nat} {ad : Addr} (h : PEl S w t x off ad) (ha : agree S w w') (hS : ∀ k, S k → S' k) : PEl S' w' t x off ad := by
  obtain ⟨h1, c, h2, h3⟩ := h
  exact ⟨hS _ h1, c, h2.step ha hS, fun i u hu => (ha.cell (by rw [add_block]; exact h1)).trans (h3 i u hu)⟩

/-- What a function has caught: places that are read. -/
def CapR (S : Nat → Prop) (w : World) : (ts : List Ty) → tdens ts → List Value → Prop
  | [], _, [] => True
  | t :: ts, x, p :: ps => (∃ ad, p = .pointer (some ad) ∧ PEl S w t x.1 0 ad) ∧ CapR S w ts x.2 ps
  | _, _, _ => False
theorem CapR.step {S S' : Nat → Prop} {w w' : World} (ha : agree S w w') (hS : ∀ k, S k → S' k) : ∀ {ts : List Ty} {x : tdens ts} {ps : List Value}, CapR S w ts x ps → CapR S' w' ts x ps
  | [], _, [], _ => trivial
  | [], _, _ :: _, h => h.elim
  | _ :: _, _, [], h => h.elim
  | _ :: _, _, _ :: _, ⟨⟨ad, h1, h2⟩, h3⟩ => ⟨⟨ad, h1, h2.step ha hS⟩, h3.step ha hS⟩

/-! ### Rows that are nobody else's, whole -/
def blk : Value → Option Nat
  | .pointer (some a) => some a.block
  | .slice (some a) _ (_ + 1) => some a.block
  | _ => none
/-- So of slices alone. -/
def oBlk : Value → Option Nat
  | .slice (some a) _ (_ + 1) => some a.block
  | _ => none
theorem blk_sl {g g' off n m : Nat} (h : blk (.slice (some ⟨g, off, none⟩) n m) = some g') : g = g' := by
  cases m with
  | zero => cases h
  | succ m => simpa [blk] using h
/-- A row that is nobody else's; or none, with no room. -/
def oRow (w : World) (e : TypeId) (size : Nat) (v : Value) (n : Nat) (xs : List Value) : Prop :=
  xs.length = n * size ∧
  ((∃ A, v = .slice A 0 0 ∧ n = 0) ∨
   ∃ g cap cur, v = .slice (some ⟨g, 0, none⟩) n (cap + 1) ∧ 0 ≤ g ∧ w.heap[g]? = some (.cells cur e (0, 0)) ∧ n ≤ cap + 1 ∧ cap + 1 ≤ maxLen ∧ cur.size = (cap + 1) * size ∧ cur.toList.take (n * size) = xs)
theorem oRow_nil (w : World) (e : TypeId) (size : Nat) : oRow w e size (.slice none 0 0) 0 [] := ⟨by simp, .inl ⟨none, rfl, rfl⟩⟩
theorem toO {w : World} {base : Nat} {e : TypeId} {size n : Nat} {v : Value} {xs : List Value} (h : w.ownsRow base e size v n xs) : oRow w e size v n xs := by
  refine ⟨h.1, ?_⟩
  rcases h.2 with ⟨h1, h2⟩ | ⟨g, cap, cur, h0, _, h1, h2, h3, h4, h5⟩
  · exact .inl ⟨none, h1, h2⟩
  · cases cap with
    | zero =>
      obtain rfl : n = 0 := by omega
      exact .inl ⟨_, h0, rfl⟩
    | succ cap => exact .inr ⟨g, cap, cur, h0, Nat.zero_le _, h1, h2, h3, h4, h5⟩
theorem ofO {w : World} {e : TypeId} {size n : Nat} {v : Value} {xs : List Value} (h : oRow w e size v n xs) : (∃ ad, v = .slice (some ad) 0 0 ∧ n = 0 ∧ xs = []) ∨ (w.ownsRow 0 e size v n xs ∧ v.ownBlock = oBlk v) := by
  rcases h.2 with ⟨A, h1, h2⟩ | ⟨g, cap, cur, h0, _, h1, h2, h3, h4, h5⟩
  · cases A with
    | none => exact .inr ⟨⟨h.1, .inl ⟨h1, h2⟩⟩, by rw [h1]; rfl⟩
    | some ad => exact .inl ⟨ad, h1, h2, List.eq_nil_of_length_eq_zero (by rw [h.1, h2]; simp)⟩
  · exact .inr ⟨⟨h.1, .inr ⟨g, cap + 1, cur, h0, Nat.zero_le _, h1, h2, h3, h4, h5⟩⟩, by rw [h0]; rfl⟩
theorem oRow.cellAt {w : World} {e : TypeId} {size n g m : Nat} {xs : List Value} (h : oRow w e size (.slice (some ⟨g, 0, none⟩) n m) n xs) (j : Nat) (hj : j < n * size) : w.cell? ⟨g, j, none⟩ = xs[j]? := by
  rcases ofO h with ⟨ad, h1, h2, _⟩ | ⟨h1, _⟩
  · rw [h2] at hj
    omega
  · exact h1.cellAt j hj

/-- Elements, one behind the other, in blocks of their own. -/
def OwnL {α : Type} (R : List Nat → α → List Value → Prop) (sz : Nat) : List Nat → List α → List Value → Prop
  | B, [], cs => B = [] ∧ cs = []
  | B, x :: xs, cs => ∃ B0 B1 c0 c1, B = B0 ++ B1 ∧ cs = c0 ++ c1 ∧ c0.length = sz ∧ R B0 x c0 ∧ OwnL R sz B1 xs c1

/-- An element's cells, all that they lead to lying in just these blocks. -/
def OwnE : (t : Ty) → World → List Nat → t.den → List Value → Prop
  | .int k, _, B, n, cs => B = [] ∧ cs = [.int k n]
  | .bool, _, B, b, cs => B = [] ∧ cs = [.bool b]
  | .str, _, B, s, cs => B = [] ∧ cs = [.string s]
  | .rs e t, w, B, xs, cs => ∃ v inner B', cs = [v] ∧ v.oneCell' = true ∧ oRow w e t.sz v xs.length inner ∧ B = (blk v).toList ++ B' ∧ OwnL (OwnE t w) t.sz B' xs inner
  | .pair a b, w, B, p, cs => ∃ B0 B1 c0 c1, B = B0 ++ B1 ∧ cs = c0 ++ c1 ∧ OwnE a w B0 p.1 c0 ∧ OwnE b w B1 p.2 c1

/-- The blocks that cells lead to. -/
def FtL (F : List Value → Nat → Prop) (sz : Nat) : Nat → List Value → Nat → Prop
  | 0, _, _ => False
  | n + 1, cs, g => F (cs.take sz) g ∨ FtL F sz n (cs.drop sz) g
def Ft : (t : Ty) → World → List Value → Nat → Prop
  | .rs e t, w, cs, g => ∃ v, cs = [v] ∧ (blk v = some g ∨ ∃ b n cap conc, v = .slice (some ⟨b, 0, none⟩) n cap ∧ w.heap[b]? = some (.cells conc e (0, 0)) ∧ FtL (Ft t w) t.sz n conc.toList g)
  | .pair a b, w, cs, g => Ft a w (cs.take a.sz) g ∨ Ft b w (cs.drop a.sz) g
  | _, _, _, _ => False

section
variable {α : Type} {R R' : List Nat → α → List Value → Prop} {sz : Nat}
theorem OwnL.length : ∀ {B : List Nat} {xs : List α} {cs : List Value}, OwnL R sz B xs cs → cs.length = xs.length * sz
  | _, [], _, ⟨_, h⟩ => by rw [h]; simp
  | _, x :: xs, _, ⟨B0, B1, c0, c1, _, h, h0, _, h1⟩ => by rw [h, List.length_append, h0, h1.length, List.length_cons, Nat.add_mul, Nat.one_mul, Nat.add_comm]
theorem OwnL.mono : ∀ {B : List Nat} {xs : List α} {cs : List Value}, (∀ B0 x c, (∀ g, g ∈ B0 → g ∈ B) → R B0 x c → R' B0 x c) → OwnL R sz B xs cs → OwnL R' sz B xs cs
  | _, [], _, _, h => h
  | _, x :: xs, _, hm, ⟨B0, B1, c0, c1, hB, h, h0, h1, h2⟩ => ⟨B0, B1, c0, c1, hB, h, h0, hm B0 x c0 (fun g hg => by rw [hB]; exact List.mem_append_left _ hg) h1, h2.mono fun B2 y c hs => hm B2 y c fun g hg => by rw [hB]; exact List.mem_append_right _ (hs g hg)⟩
theorem OwnL.append : ∀ {B B' : List Nat} {xs ys : List α} {cs ds : List Value}, OwnL R sz B xs cs → OwnL R sz B' ys ds → OwnL R sz (B ++ B') (xs ++ ys) (cs ++ ds)
  | _, _, [], _, _, _, ⟨h1, h2⟩, h => by rw [h1, h2]; exact h
  | _, _, x :: xs, _, _, _, ⟨B0, B1, c0, c1, hB, h, h0, h1, h2⟩, h' => ⟨B0, B1 ++ _, c0, c1 ++ _, by rw [hB, List.append_assoc], by rw [h, List.append_assoc], h0, h1, h2.append h'⟩
theorem OwnL.split : ∀ {xs ys : List α} {B : List Nat} {cs : List Value}, OwnL R sz B (xs ++ ys) cs → ∃ B0 B1 c0 c1, B = B0 ++ B1 ∧ cs = c0 ++ c1 ∧ OwnL R sz B0 xs c0 ∧ OwnL R sz B1 ys c1
  | [], ys, B, cs, h => ⟨[], B, [], cs, rfl, rfl, ⟨rfl, rfl⟩, h⟩
  | x :: xs, ys, _, _, ⟨B0, B1, c0, c1, hB, h, h0, h1, h2⟩ => by
    obtain ⟨B2, B3, c2, c3, e1, e2, k1, k2⟩ := h2.split
    exact ⟨B0 ++ B2, B3, c0 ++ c2, c3, by rw [hB, e1, List.append_assoc], by rw [h, e2, List.append_assoc], ⟨B0, B2, c0, c2, rfl, rfl, h0, h1, k1⟩, k2⟩
end

theorem OwnE.length : ∀ {t : Ty} {w : World} {B : List Nat} {x : t.den} {cs : List Value}, OwnE t w B x cs → cs.length = t.sz
  | .int _, _, _, _, _, h => by rw [h.2]; rfl
  | .bool, _, _, _, _, h => by rw [h.2]; rfl
  | .str, _, _, _, _, h => by rw [h.2]; rfl
  | .rs _ _, _, _, _, _, ⟨_, _, _, h, _⟩ => by rw [h]; rfl
  | .pair a b, _, _, _, _, ⟨_, _, _, _, _, h, h0, h1⟩ => by rw [h, List.length_append, OwnE.length h0, OwnE.length h1]; rfl
theorem OwnE.one : ∀ {t : Ty} {w : World} {B : List Nat} {x : t.den} {cs : List Value}, OwnE t w B x cs → ∀ u ∈ cs, u.oneCell' = true
  | .int _, _, _, _, _, h, u, hu => by rw [h.2] at hu; simp at hu; subst hu; rfl
  | .bool, _, _, _, _, h, u, hu => by rw [h.2] at hu; simp at hu; subst hu; rfl
  | .str, _, _, _, _, h, u, hu => by rw [h.2] at hu; simp at hu; subst hu; rfl
  | .rs _ _, _, _, _, _, ⟨_, _, _, h, ho, _⟩, u, hu => by rw [h] at hu; simp at hu; subst hu; exact ho
  | .pair a b, _, _, _, _, ⟨_, _, _, _, _, h, h0, h1⟩, u, hu => by
    rw [h, List.mem_append] at hu
    rcases hu with hu | hu
    · exact OwnE.one h0 u hu
    · exact OwnE.one h1 u hu

theorem ownsRow_move {w w1 : World} {e : TypeId} {sz n : Nat} {v : Value} {l : List Value} (h : oRow w e sz v n l) (hb : ∀ g, blk v = some g → w1.heap[g]? = w.heap[g]?) : oRow w1 e sz v n l := by
  refine ⟨h.1, ?_⟩
  rcases h.2 with ⟨A0, h2, h2'⟩ | ⟨g, cap, cur, rfl, h3, hg, h4⟩
  · exact .inl ⟨_, h2, h2'⟩
  · exact .inr ⟨g, cap, cur, rfl, h3, (hb g rfl).trans hg, h4⟩
theorem ownsRow_lt {w : World} {e : TypeId} {sz n g : Nat} {v : Value} {l : List Value} (h : oRow w e sz v n l) (hb : blk v = some g) : g < w.heap.size := by
  rcases h.2 with ⟨A0, rfl, _⟩ | ⟨g', cap, cur, rfl, _, hg, _⟩
  · cases A0 <;> cases hb
  · obtain rfl : g' = g := by simpa [blk] using hb
    exact (Array.getElem?_eq_some_iff.mp hg).1

/-- It stays as long as its blocks do. -/
theorem OwnE.move {w w1 : World} : ∀ {t : Ty} {B : List Nat} {x : t.den} {cs : List Value}, OwnE t w B x cs → (∀ g, g ∈ B → w1.heap[g]? = w.heap[g]?) → OwnE t w1 B x cs
  | .int _, _, _, _, h, _ => h
  | .bool, _, _, _, h, _ => h
  | .str, _, _, _, h, _ => h
  | .rs e t, B, xs, cs, ⟨v, inner, B', h1, h2, h3, h4, h5⟩, hb => by
    refine ⟨v, inner, B', h1, h2, ownsRow_move h3 fun g hg => hb g (by rw [h4, hg]; simp), h4, h5.mono fun B0 y c hs h => OwnE.move h fun g hg => hb g (by rw [h4]; exact List.mem_append_right _ (hs g hg))⟩
  | .pair a b, B, p, cs, ⟨B0, B1, c0, c1, h1, h2, h3, h4⟩, hb =>
    ⟨B0, B1, c0, c1, h1, h2, h3.move fun g hg => hb g (by rw [h1]; exact List.mem_append_left _ hg), h4.move fun g hg => hb g (by rw [h1]; exact List.mem_append_right _ hg)⟩
theorem OwnL.moveE {w w1 : World} {t : Ty} {B : List Nat} {xs : List t.den} {cs : List Value} (h : OwnL (OwnE t w) t.sz B xs cs) (hb : ∀ g, g ∈ B → w1.heap[g]? = w.heap[g]?) : OwnL (OwnE t w1) t.sz B xs cs :=
  h.mono fun B0 _ _ hs hE => hE.move fun g hg => hb g (hs g hg)

theorem OwnL.lt {w : World} {t : Ty} (hE : ∀ {B : List Nat} {x : t.den} {cs : List Value}, OwnE t w B x cs → ∀ g, g ∈ B → g < w.heap.size) : ∀ {B : List Nat} {xs : List t.den} {cs : List Value}, OwnL (OwnE t w) t.sz B xs cs → ∀ g, g ∈ B → g < w.heap.size
  | _, [], _, ⟨h, _⟩, g, hg => by rw [h] at hg; cases hg
  | _, x :: xs, _, ⟨B0, B1, c0, c1, hB, h, h0, h1, h2⟩, g, hg => by
    rw [hB] at hg
    rcases List.mem_append.mp hg with hg | hg
    · exact hE h1 g hg
    · exact h2.lt hE g hg
theorem OwnE.lt {w : World} : ∀ {t : Ty} {B : List Nat} {x : t.den} {cs : List Value}, OwnE t w B x cs → ∀ g, g ∈ B → g < w.heap.size
  | .int _, _, _, _, h, g, hg => by rw [h.1] at hg; cases hg
  | .bool, _, _, _, h, g, hg => by rw [h.1] at hg; cases hg
  | .str, _, _, _, h, g, hg => by rw [h.1] at hg; cases hg
  | .rs e t, B, xs, cs, ⟨v, inner, B', h1, h2, h3, h4, h5⟩, g, hg => by
    rw [h4] at hg
    rcases List.mem_append.mp hg with hg | hg
    · exact ownsRow_lt h3 (by simpa using hg)
    · exact h5.lt OwnE.lt g hg
  | .pair a b, B, p, cs, ⟨B0, B1, c0, c1, h1, h2, h3, h4⟩, g, hg => by
    rw [h1] at hg
    rcases List.mem_append.mp hg with hg | hg
    · exact h3.lt g hg
    · exact h4.lt g hg

/-- The blocks are just those that the cells lead to. -/
theorem FtL_take (F : List Value → Nat → Prop) (sz : Nat) : ∀ (n : Nat) (cs : List Value) (g : Nat), FtL F sz n (cs.take (n * sz)) g ↔ FtL F sz n cs g
  | 0, _, _ => Iff.rfl
  | n + 1, cs, g => by
    simp only [FtL]
    rw [List.take_take, List.drop_take, Nat.min_eq_left (by rw [Nat.add_mul, Nat.one_mul]; omega), show (n + 1) * sz - sz = n * sz by rw [Nat.add_mul, Nat.one_mul]; omega, FtL_take F sz n]
theorem OwnL.ft {w : World} {t : Ty} (hE : ∀ {B : List Nat} {x : t.den} {cs : List Value}, OwnE t w B x cs → ∀ g, Ft t w cs g ↔ g ∈ B) : ∀ {B : List Nat} {xs : List t.den} {cs : List Value}, OwnL (OwnE t w) t.sz B xs cs → ∀ g, FtL (Ft t w) t.sz xs.length cs g ↔ g ∈ B
  | _, [], _, ⟨h, _⟩, g => by rw [h]; simp [FtL]
  | _, x :: xs, _, ⟨B0, B1, c0, c1, hB, h, h0, h1, h2⟩, g => by
    rw [hB, h, List.mem_append, ← hE h1, ← h2.ft hE]
    simp only [List.length_cons, FtL]
    rw [List.take_left' h0, List.drop_left' h0]
theorem OwnE.ft {w : World} : ∀ {t : Ty} {B : List Nat} {x : t.den} {cs : List Value}, OwnE t w B x cs → ∀ g, Ft t w cs g ↔ g ∈ B
  | .int _, _, _, _, h, g => by rw [h.1]; simp [Ft]
  | .bool, _, _, _, h, g => by rw [h.1]; simp [Ft]
  | .str, _, _, _, h, g => by rw [h.1]; simp [Ft]
  | .rs e t, B, xs, cs, ⟨v, inner, B', h1, h2, h3, h4, h5⟩, g => by
    rw [h4, List.mem_append, ← h5.ft OwnE.ft, h1]
    constructor
    · rintro ⟨v', e1, hv⟩
      injection e1 with e1
      subst e1
      rcases hv with hv | ⟨b, n, cap, conc, rfl, hb, hF⟩
      · exact .inl (by simp [hv])
      · right
        rcases h3.2 with ⟨A0, h6, _⟩ | ⟨g', cap', cur, h6, _, h7, h8, h9, h10, h11⟩
        · cases h6
          exact hF.elim
        · injection h6 with h6 h12 _
          injection h6 with h6
          injection h6 with h6
          subst h6 h12
          rw [hb] at h7
          injection h7 with h7
          injection h7 with h7 _ _
          subst h7
          rw [← h11, FtL_take]
          exact hF
    · rintro (hg | hF)
      · exact ⟨v, rfl, .inl (by simpa using hg)⟩
      · refine ⟨v, rfl, .inr ?_⟩
        rcases h3.2 with ⟨A0, h6, h7⟩ | ⟨g', cap', cur, h6, _, h7, h8, h9, h10, h11⟩
        · rw [h7] at hF
          exact hF.elim
        · exact ⟨g', _, cap' + 1, cur, h6, h7, by rw [← FtL_take, h11]; exact hF⟩
  | .pair a b, B, p, cs, ⟨B0, B1, c0, c1, h1, h2, h3, h4⟩, g => by
    rw [h1, List.mem_append, ← h3.ft, ← h4.ft, h2]
    simp only [Ft]
    rw [List.take_left' h3.length, List.drop_left' h3.length]

/-- What is owned whole can be read, as long as the blocks stay. -/
theorem OwnL.get {w : World} {t : Ty} : ∀ {B : List Nat} {xs : List t.den} {cs : List Value}, OwnL (OwnE t w) t.sz B xs cs → ∀ (j : Nat) (x : t.den), xs[j]? = some x → ∃ B0, (∀ g, g ∈ B0 → g ∈ B) ∧ OwnE t w B0 x ((cs.drop (j * t.sz)).take t.sz)
  | _, [], _, _, j, x, hj => by simp at hj
  | _, y :: xs, _, ⟨B0, B1, c0, c1, hB, h, h0, h1, h2⟩, 0, x, hj => by
    simp at hj
    subst hj
    exact ⟨B0, fun g hg => by rw [hB]; exact List.mem_append_left _ hg, by rw [h, Nat.zero_mul, List.drop_zero, List.take_left' h0]; exact h1⟩
  | _, y :: xs, _, ⟨B0, B1, c0, c1, hB, h, h0, h1, h2⟩, j + 1, x, hj => by
    obtain ⟨B2, k1, k2⟩ := h2.get j x (by simpa using hj)
    refine ⟨B2, fun g hg => by rw [hB]; exact List.mem_append_right _ (k1 g hg), ?_⟩
    rw [h, Nat.add_mul, Nat.one_mul, Nat.add_comm, ← List.drop_drop, List.drop_left' h0]
    exact k2
theorem OwnE.read {S : Nat → Prop} {w : World} : ∀ {t : Ty} {B : List Nat} {x : t.den} {cs : List Value}, OwnE t w B x cs → (∀ g, g ∈ B → S g) → RdE S t w x cs
  | .int _, _, _, _, h, _ => h.2
  | .bool, _, _, _, h, _ => h.2
  | .str, _, _, _, h, _ => h.2
  | .rs e t, B, xs, cs, ⟨v, inner, B', h1, h2, h3, h4, h5⟩, hS => by
    rcases h3.2 with ⟨A0, h6, h7⟩ | ⟨g, cap, cur, h6, _, h7, h8, h9, h10, h11⟩
    · exact ⟨A0, 0, by rw [h1, h6, h7], by omega, by omega, fun h => by omega⟩
    · refine ⟨some ⟨g, 0, none⟩, cap + 1, by rw [h1, h6], h8, by unfold maxLen at h9; omega, fun _ => ⟨_, rfl, hS g (by rw [h4, h6]; simp [blk]), fun j x hj => ?_⟩⟩
      obtain ⟨B0, k1, k2⟩ := h5.get j x hj
      have hlt : j < xs.length := (List.getElem?_eq_some_iff.mp hj).1
      refine ⟨_, k2.length, k2.read fun g hg => hS g (by rw [h4]; exact List.mem_append_right _ (k1 g hg)), fun i u hu => ?_⟩
      rw [List.getElem?_take] at hu
      split at hu
      · rename_i hi
        rw [List.getElem?_drop] at hu
        have h3' := h3
        rw [h6] at h3'
        have hadd : (⟨g, 0, none⟩ : Addr).add (j * t.sz + i) = ⟨g, 0 + (j * t.sz + i), none⟩ := by unfold Addr.add; split <;> simp_all
        rw [hadd, Nat.zero_add, h3'.cellAt _ (by
          have : j * t.sz + t.sz ≤ xs.length * t.sz := by rw [← Nat.succ_mul]; exact Nat.mul_le_mul_right _ hlt
          omega)]
        exact hu
      · cases hu
  | .pair a b, B, p, cs, ⟨B0, B1, c0, c1, h1, h2, h3, h4⟩, hS =>
    ⟨c0, c1, h2, h3.read fun g hg => hS g (by rw [h1]; exact List.mem_append_left _ hg), h4.read fun g hg => hS g (by rw [h1]; exact List.mem_append_right _ hg)⟩

/-! ### What the abstract values say -/
structure Cx where
  D : List Nat
  I : Nat → Prop
  T : Nat → Prop
  w : World
  ρ : Nat → Value
  X : Nat → Nat → Prop
/-- The blocks of an entry: its own, and those of rows in it. -/
def Cx.ow (c : Cx) (i g : Nat) : Prop := blk (c.ρ i) = some g ∨ c.X i g

def Cx.S (c : Cx) (lt : Bool) : Nat → Prop := if lt then c.I else c.T

def shape (agg : Bool) (y : Value) : Prop := if agg = true then ∃ cs, y = .agg cs else y.oneCell' = true

def leafRel (c : Cx) : Leaf → Value → Prop
  | .v x, y => y = x ∧ Value.oneCell' x = true
  | .rd lt _ t xs, y => ∃ A n, y = .slice A xs.length n ∧ xs.length ≤ n ∧ PRow (c.S lt) c.w t A xs
  | .own id, y => id ∈ c.D ∧ y = c.ρ id ∧ Value.oneCell' y = true
  | .ptr id off, y => id ∈ c.D ∧ ∃ g, c.ρ id = .pointer (some ⟨g, 0, none⟩) ∧ y = .pointer (some ⟨g, off, none⟩)
  | .elp id sz i off, y => id ∈ c.D ∧ ∃ g n m, c.ρ id = .slice (some ⟨g, 0, none⟩) n (m + 1) ∧ y = .pointer (some ⟨g, i * sz + off, none⟩)
  | .rdp lt t x off, y => ∃ ad, y = .pointer (some ad) ∧ PEl (c.S lt) c.w t x off ad
  | .clo lt f agg t x, y => ∃ y0, y = .func (.func f) #[y0] #[] ∧ shape agg y0 ∧ RdE (c.S lt) t c.w x y0.cells.toList
  | .fnc f, y => y = .func (.func f) #[] #[]
  | .cap lt f ts x, y => ∃ ps : Array Value, y = .func (.func f) #[] ps ∧ CapR (c.S lt) c.w ts x ps.toList
  | .dead, y => y.oneCell' = true

def v1Rel (c : Cx) : V1 → Value → Prop
  | .lf l, y => leafRel c l y
  | .agg ls, y => ∃ cs, y = .agg cs ∧ All2 (leafRel c) ls cs.toList

def avRel (c : Cx) : AV → Value → Prop
  | .one v, y => v1Rel c v y
  | .tup vs, y => ∃ ws, y = .tuple ws ∧ All2 (v1Rel c) vs ws.toList
  | .fn f caps, y => ∃ cs, y = .func (.func f) #[] cs ∧ All2 (leafRel c) caps cs.toList
  | .dead, _ => True

def entRel (c : Cx) (id : Nat) : Ent → Prop
  | .box t cells => ∃ g conc, c.ρ id = .pointer (some ⟨g, 0, none⟩) ∧ ¬ c.T g ∧ c.w.heap[g]? = some (.cells conc t (0, 0)) ∧ All2 (leafRel c) cells conc.toList
  | .row e t xs => ∃ inner, oRow c.w e t.sz (c.ρ id) xs.length inner ∧ (∀ g, blk (c.ρ id) = some g → ¬ c.T g) ∧ All2 (leafRel c) (xs.flatMap (leaves true t)) inner
  | .lrow e t n cells => ∃ inner, oRow c.w e t.sz (c.ρ id) n inner ∧ (∀ g, blk (c.ρ id) = some g → ¬ c.T g) ∧ All2 (leafRel c) cells inner
  | .deep e t xs => ∃ inner B, oRow c.w e t.sz (c.ρ id) xs.length inner ∧ (∀ g, blk (c.ρ id) = some g → ¬ c.T g ∧ g ∉ B) ∧ B.Nodup ∧ (∀ g, g ∈ B → c.X id g) ∧ OwnL (OwnE t c.w) t.sz B xs inner
  | .zip e t l cells r => ∃ i0 i1 i2 B0 B2, oRow c.w e t.sz (c.ρ id) (l.length + 1 + r.length) (i0 ++ (i1 ++ i2)) ∧ (∀ g, blk (c.ρ id) = some g → ¬ c.T g ∧ g ∉ B0 ++ B2) ∧ (B0 ++ B2).Nodup ∧ (∀ g, g ∈ B0 ++ B2 → c.X id g) ∧
      OwnL (OwnE t c.w) t.sz B0 l i0 ∧ i1.length = t.sz ∧ All2 (leafRel c) cells i1 ∧ OwnL (OwnE t c.w) t.sz B2 r i2
def isRow : Ent → Bool
  | .box _ _ => false
  | _ => true

structure SRel (c : Cx) (store : List (Nat × Ent)) : Prop where
  ids : c.D = store.map (·.1)
  nodup : c.D.Nodup
  ent : ∀ id e, (id, e) ∈ store → entRel c id e
  apartX : ∀ i j g, i ∈ c.D → j ∈ c.D → i ≠ j → c.ow i g → ¬ c.ow j g
  ext : ∀ i g, i ∈ c.D → c.X i g → ¬ c.T g ∧ g < c.w.heap.size
  sub : ∀ k, c.I k → c.T k
  lt : ∀ k, c.T k → k < c.w.heap.size

theorem SRel.apart {c : Cx} {store : List (Nat × Ent)} (h : SRel c store) : ∀ i j g, i ∈ c.D → j ∈ c.D → i ≠ j → blk (c.ρ i) = some g → blk (c.ρ j) ≠ some g :=
  fun i j g hi hj hij hg hh => h.apartX i j g hi hj hij (.inl hg) (.inl hh)

structure Rel (c : Cx) (st : St) (tmps : Array Value) : Prop where
  s : SRel c st.store
  env : All2 (avRel c) st.env tmps.toList

/-- How one state of things comes from another: what was to stay has stayed. -/
structure Step (c c' : Cx) : Prop where
  below : Below 0 c.w c'.w
  agree : agree c.T c.w c'.w
  T : ∀ k, c.T k → c'.T k
  I : ∀ k, c.I k → c'.I k
  new : ∀ k, c'.I k → c.I k ∨ ¬ c.T k

theorem Step.refl (c : Cx) : Step c c := ⟨Below.refl _ _, agree.refl _ _, fun _ h => h, fun _ h => h, fun _ h => .inl h⟩
theorem Step.trans {a b c : Cx} (h : Step a b) (k : Step b c) : Step a c :=
  ⟨h.below.trans k.below, h.agree.trans (k.agree.mono h.T), fun i hi => k.T i (h.T i hi), fun i hi => k.I i (h.I i hi), fun i hi => by
    rcases k.new i hi with h1 | h1
    · exact h.new i h1
    · exact .inr fun h2 => h1 (h.T i h2)⟩

/-! ### What stays -/
theorem leafRel.move {c c' : Cx} (hT : Go.Proofs.Ytdacfaincamliaa.Ev.agree c.T c.w c'.w) (hsub : ∀ k, c.I k → c.T k) (hTT : ∀ k, c.T k → c'.T k) (hII : ∀ k, c.I k → c'.I k) {l : Leaf} {y : Value}
    (hD : ∀ i, i ∈ idsL l → i ∈ c.D → i ∈ c'.D ∧ c'.ρ i = c.ρ i) (h : leafRel c l y) : leafRel c' l y := by
  have hS : ∀ lt k, c.S lt k → c'.S lt k := by intro lt k; unfold Cx.S; cases lt <;> simp <;> first | exact hTT k | exact hII k
  have hA : ∀ lt, Go.Proofs.Ytdacfaincamliaa.Ev.agree (c.S lt) c.w c'.w := by
    intro lt; unfold Cx.S; cases lt
    · exact hT
    · exact hT.mono hsub
  cases l with
  | v x => exact h
  | rd lt e t xs =>
    obtain ⟨A, n, h1, h2, h3⟩ := h
    exact ⟨A, n, h1, h2, h3.step (hA lt) (hS lt)⟩
  | own id =>
    obtain ⟨h1, h2, h3⟩ := h
    obtain ⟨h4, h5⟩ := hD id (by simp [idsL]) h1
    exact ⟨h4, by rw [h5]; exact h2, h3⟩
  | ptr id off =>
    obtain ⟨h1, g, h2, h3⟩ := h
    obtain ⟨h4, h5⟩ := hD id (by simp [idsL]) h1
    exact ⟨h4, g, by rw [h5]; exact h2, h3⟩
  | elp id sz i off =>
    obtain ⟨h1, g, n, m, h2, h3⟩ := h
    obtain ⟨h4, h5⟩ := hD id (by simp [idsL]) h1
    exact ⟨h4, g, n, m, by rw [h5]; exact h2, h3⟩
  | rdp lt t x off =>
    obtain ⟨ad, h1, h2⟩ := h
    exact ⟨ad, h1, h2.step (hA lt) (hS lt)⟩
  | clo lt f agg t x =>
    obtain ⟨y0, h1, h2, h3⟩ := h
    exact ⟨y0, h1, h2, h3.step (hA lt) (hS lt)⟩
  | cap lt f ts x =>
    obtain ⟨ps, h1, h2⟩ := h
    exact ⟨ps, h1, h2.step (hA lt) (hS lt)⟩
  | fnc f => exact h
  | dead => exact h

theorem leaf_one {c : Cx} {l : Leaf} {y : Value} (h : leafRel c l y) : y.oneCell' = true := by
  cases l with
  | v x => rw [h.1]; exact h.2
  | rd lt e t xs => obtain ⟨A, n, h1, _⟩ := h; rw [h1]; rfl
  | own id => exact h.2.2
  | ptr id off => obtain ⟨_, g, _, h1⟩ := h; rw [h1]; rfl
  | elp id sz i off => obtain ⟨_, g, n, m, _, h1⟩ := h; rw [h1]; rfl
  | rdp lt t x off => obtain ⟨ad, h1, _⟩ := h; rw [h1]; rfl
  | clo lt f agg t x => obtain ⟨y0, h1, _⟩ := h; rw [h1]; rfl
  | fnc f => rw [show y = _ from h]; rfl
  | cap lt f ts x => obtain ⟨ps, h1, _⟩ := h; rw [h1]; rfl
  | dead => exact h
theorem one_cells {y : Value} (h : y.oneCell' = true) : y.cells = #[y] := by cases y <;> first | rfl | simp [Value.oneCell'] at h
theorem all2_one {c : Cx} : ∀ {ls : List Leaf} {cs : List Value}, All2 (leafRel c) ls cs → ∀ u ∈ cs, u.oneCell' = true
  | [], [], _, _, hu => by cases hu
  | _ :: _, _ :: _, h, u, hu => by
    rcases List.mem_cons.mp hu with rfl | hu
    · exact leaf_one h.1
    · exact all2_one h.2 u hu
  | [], _ :: _, h, _, _ => h.elim
  | _ :: _, [], h, _, _ => h.elim

theorem v1Rel.imp {c c' : Cx} (hm : ∀ l y, leafRel c l y → leafRel c' l y) {v : V1} {y : Value} (h : v1Rel c v y) : v1Rel c' v y := by
  cases v with
  | lf l => exact hm _ _ h
  | agg ls => obtain ⟨cs, h1, h2⟩ := h; exact ⟨cs, h1, h2.mono hm⟩
theorem avRel.imp {c c' : Cx} (hm : ∀ l y, leafRel c l y → leafRel c' l y) {v : AV} {y : Value} (h : avRel c v y) : avRel c' v y := by
  cases v with
  | one v => exact v1Rel.imp hm h
  | tup vs => obtain ⟨ws, h1, h2⟩ := h; exact ⟨ws, h1, h2.mono fun _ _ => v1Rel.imp hm⟩
  | fn f caps => obtain ⟨cs, h1, h2⟩ := h; exact ⟨cs, h1, h2.mono hm⟩
  | dead => trivial
/-- Leaves turned by f. -/
theorem v1Rel.impf {c c' : Cx} {f : Leaf → Leaf} (hm : ∀ l y, leafRel c l y → leafRel c' (f l) y) {v : V1} {y : Value} (h : v1Rel c v y) : v1Rel c' (mapV f v) y := by
  cases v with
  | lf l => exact hm _ _ h
  | agg ls => obtain ⟨cs, h1, h2⟩ := h; exact ⟨cs, h1, All2.map (h2.mono hm)⟩
theorem avRel.impf {c c' : Cx} {f : Leaf → Leaf} (hm : ∀ l y, leafRel c l y → leafRel c' (f l) y) {v : AV} {y : Value} (h : avRel c v y) : avRel c' (mapA f v) y := by
  cases v with
  | one v => exact v1Rel.impf hm h
  | tup vs => obtain ⟨ws, h1, h2⟩ := h; exact ⟨ws, h1, All2.map (h2.mono fun _ _ => v1Rel.impf hm)⟩
  | fn f caps => obtain ⟨cs, h1, h2⟩ := h; exact ⟨cs, h1, All2.map (h2.mono hm)⟩
  | dead => trivial

/-- Leaves without numbers. -/
theorem idsL_leaves (lt : Bool) : ∀ (t : Ty) (x : t.den) (l : Leaf), l ∈ leaves lt t x → idsL l = []
  | .int _, _, l, h => by simp [leaves] at h; subst h; rfl
  | .bool, _, l, h => by simp [leaves] at h; subst h; rfl
  | .str, _, l, h => by simp [leaves] at h; subst h; rfl
  | .rs _ _, _, l, h => by simp [leaves] at h; subst h; rfl
  | .pair a b, x, l, h => by
    simp only [leaves, List.mem_append] at h
    rcases h with h | h
    · exact idsL_leaves lt a x.1 l h
    · exact idsL_leaves lt b x.2 l h
theorem leaves_length (lt : Bool) : ∀ (t : Ty) (x : t.den), (leaves lt t x).length = t.sz
  | .int _, _ => rfl
  | .bool, _ => rfl
  | .str, _ => rfl
  | .rs _ _, _ => rfl
  | .pair a b, x => by simp [leaves, leaves_length lt a, leaves_length lt b, Ty.sz]


/-- An element's leaves, out of its cells. -/
theorem leaves_rel {c : Cx} (lt : Bool) : ∀ {t : Ty} {x : t.den} {cs : List Value}, RdE (c.S lt) t c.w x cs → All2 (leafRel c) (leaves lt t x) cs
  | .int _, _, _, h => by rw [show _ = _ from h]; exact ⟨⟨rfl, rfl⟩, trivial⟩
  | .bool, _, _, h => by rw [show _ = _ from h]; exact ⟨⟨rfl, rfl⟩, trivial⟩
  | .str, _, _, h => by rw [show _ = _ from h]; exact ⟨⟨rfl, rfl⟩, trivial⟩
  | .rs _ _, _, _, ⟨A, n, h, hl, hr⟩ => by rw [h]; exact ⟨⟨A, n, rfl, hl, hr⟩, trivial⟩
  | .pair _ _, _, _, ⟨c0, c1, h, h0, h1⟩ => by rw [h]; exact (leaves_rel lt h0).append (leaves_rel lt h1)
/-- And back. -/
theorem rel_leaves {c : Cx} (lt : Bool) : ∀ {t : Ty} {x : t.den} {cs : List Value}, All2 (leafRel c) (leaves lt t x) cs → RdE (c.S lt) t c.w x cs
  | .int _, _, [y], h => by show _ = _; rw [h.1.1]
  | .bool, _, [y], h => by show _ = _; rw [h.1.1]
  | .str, _, [y], h => by show _ = _; rw [h.1.1]
  | .rs _ _, _, [y], h => by obtain ⟨A, n, h1, h2, h3⟩ := h.1; exact ⟨A, n, by rw [h1], h2, h3⟩
  | .pair a b, x, cs, h => by
    obtain ⟨b1, b2, e, h1, h2⟩ := All2.append_inv (as := leaves lt a x.1) (as' := leaves lt b x.2) h
    exact ⟨b1, b2, e, rel_leaves lt h1, rel_leaves lt h2⟩
  | .int _, _, [], h => h.elim
  | .bool, _, [], h => h.elim
  | .str, _, [], h => h.elim
  | .rs _ _, _, [], h => h.elim
  | .int _, _, _ :: _ :: _, h => h.2.elim
  | .bool, _, _ :: _ :: _, h => h.2.elim
  | .str, _, _ :: _ :: _, h => h.2.elim
  | .rs _ _, _, _ :: _ :: _, h => h.2.elim

/-! ### Functions as values -/
def FK.rel (S : Nat → Prop) (w : World) : (k : FK) → k.den → Value → Prop
  | .clo _ f agg t, x, y => ∃ y0, y = .func (.func f) #[y0] #[] ∧ shape agg y0 ∧ RdE S t w x y0.cells.toList
  | .cap _ f ts, x, y => ∃ ps : Array Value, y = .func (.func f) #[] ps ∧ CapR S w ts x ps.toList
  | .pt _ t, x, y => ∃ ad, y = .pointer (some ad) ∧ PEl S w t x 0 ad
theorem FK.rel_step {S S' : Nat → Prop} {w w' : World} (ha : agree S w w') (hS : ∀ k, S k → S' k) : ∀ {k : FK} {x : k.den} {y : Value}, k.rel S w x y → k.rel S' w' x y
  | .clo _ _ _ _, _, _, ⟨y0, h1, h2, h3⟩ => ⟨y0, h1, h2, h3.step ha hS⟩
  | .cap _ _ _, _, _, ⟨ps, h1, h2⟩ => ⟨ps, h1, h2.step ha hS⟩
  | .pt _ _, _, _, ⟨ad, h1, h2⟩ => ⟨ad, h1, h2.step ha hS⟩
theorem FK.rel_one {S : Nat → Prop} {w : World} : ∀ {k : FK} {x : k.den} {y : Value}, k.rel S w x y → y.oneCell' = true
  | .clo _ _ _ _, _, _, ⟨y0, h1, _⟩ => by rw [h1]; rfl
  | .cap _ _ _, _, _, ⟨ps, h1, _⟩ => by rw [h1]; rfl
  | .pt _ _, _, _, ⟨ad, h1, _⟩ => by rw [h1]; rfl
theorem FK.leaf_rel {c : Cx} : ∀ {k : FK} {x : k.den} {y : Value}, k.rel (c.S k.want) c.w x y → leafRel c (k.leaf x) y
  | .clo _ _ _ _, _, _, h => h
  | .cap _ _ _, _, _, h => h
  | .pt _ _, _, _, h => h
theorem castD_eq {R : Type} {r : R} {t t' : Ty} {x : t.den} {K' : t'.den → Option R} (h : castD x K' = some r) : ∃ e : t = t', K' (e ▸ x) = some r := by
  unfold castD at h
  split at h
  · rename_i e
    exact ⟨e, h⟩
  · cases h
theorem FK.get_some {R : Type} {r : R} {c : Cx} {kp : Bool} {y : Value} : ∀ {k : FK} {l : Leaf} {K : k.den → Option R}, k.get kp l K = some r → leafRel c l y → ∃ x lt, K x = some r ∧ k.rel (c.S lt) c.w x y ∧ (kp = true → lt = true)
  | .clo _ f agg t, l, K, h, hv => by
    simp only [FK.get] at h
    split at h
    · split at h
      · rename_i hc
        obtain ⟨⟨rfl, rfl⟩, hw⟩ := hc
        obtain ⟨rfl, h⟩ := castD_eq h
        exact ⟨_, _, h, hv, hw⟩
      · cases h
    · cases h
  | .cap _ f ts, l, K, h, hv => by
    simp only [FK.get] at h
    split at h
    · split at h
      · rename_i hc
        obtain ⟨rfl, hw⟩ := hc
        unfold castT at h
        split at h
        · rename_i e
          subst e
          exact ⟨_, _, h, hv, hw⟩
        · cases h
      · cases h
    · cases h
  | .pt _ t, l, K, h, hv => by
    simp only [FK.get] at h
    split at h
    · split at h
      · rename_i hw
        obtain ⟨rfl, h⟩ := castD_eq h
        exact ⟨_, _, h, hv, hw⟩
      · cases h
    · cases h
theorem S_mono {c : Cx} (hs : ∀ k, c.I k → c.T k) {want lt : Bool} (h : want = true → lt = true) : ∀ k, c.S lt k → c.S want k := by
  intro k hk
  cases want with
  | true => rw [h rfl] at hk; exact hk
  | false =>
    cases lt with
    | true => exact hs k hk
    | false => exact hk

end Go.Proofs.Ytdacfaincamliaa.Ev
