/- What the program's own listing of all ways comes to. Conditions: those of each theorem. -/
import Derived.Test.YtdacfaincamliaaGC
import Derived.Test.YtdacfaincamliaaQW
namespace Go.Proofs.Ytdacfaincamliaa.Ev
open Go

def fct : Nat → Nat
  | 0 => 1
  | n + 1 => (n + 1) * fct n
theorem fct_le : ∀ n : Nat, n ≤ 6 → fct n ≤ 720
  | 0, _ => by decide
  | 1, _ => by decide
  | 2, _ => by decide
  | 3, _ => by decide
  | 4, _ => by decide
  | 5, _ => by decide
  | 6, _ => by decide
  | n + 7, h => by omega
theorem pmF_cnt : ∀ (k : Nat) (l : List Int), l.length = k → (pmF k l).length = fct k
  | 0, _, _ => rfl
  | k + 1, l, h => by
    rw [pmF, if_neg (by omega), List.length_flatMap]
    have : (List.range l.length).map (fun i => ((pmF k (l.eraseIdx i)).map fun r => l.getD i 0 :: r).length) = (List.range l.length).map fun _ => fct k := by
      refine List.map_congr_left fun i hi => ?_
      rw [List.length_map, pmF_cnt k _ (by rw [List.length_eraseIdx, if_pos (List.mem_range.mp hi)]; omega)]
    rw [this, List.map_const', List.length_range, h, List.sum_replicate_nat]
    rfl
theorem take_self {α : Type} (xs : List α) (i : Nat) (d : α) (h : i < xs.length) : xs.take i ++ xs.getD i d :: xs.drop (i + 1) = xs := by
  rw [← getD_drop xs i d h, List.take_append_drop]
theorem F118_eq (n : Nat) (l : List Int) (h : l.length ≤ 1000000) : F118 n l = some (l, ()) := by
  unfold F118
  rw [if_pos (by omega)]
theorem F148_eq (n : Nat) (l : List (List Int)) (h : l.length ≤ 1000000) : F148 n l = some (l, ()) := by
  unfold F148
  rw [if_pos (by omega)]
theorem F158_eq (n : Nat) (l : List Int) (i : Nat) (h : i < l.length) (h2 : l.length ≤ 1000000) : F158 n l (i : Int) (IntKind.i64.wrap ((i : Int) + 1)) = some (l.eraseIdx i, ()) := by
  unfold F158 cutF
  rw [w64s (k := 0) (by omega), if_pos ⟨by omega, by omega, by omega⟩, Int.toNat_natCast, Int.toNat_natCast, List.eraseIdx_eq_take_drop_succ]

theorem L147_2_eq (R : List Int → Option (List (List Int) × Unit)) (n : Nat) (l : List Int) (first : Int) (x12 : List Int) (x13 x14 : Int) (xs : List (List Int)) (hx : xs.length ≤ 1000) (hr : ∀ r ∈ xs, r.length ≤ 1000) : ∀ (k m i : Nat) (acc : List (List Int)), i + k = xs.length → k < m → acc.length + k ≤ 1000000 →
    L147_2 R n m l acc first x12 x13 x14 xs (xs.length : Int) (i : Int) = some (.inl (l, acc ++ (xs.drop i).map (fun r => first :: r), x12, x13, x14, ()))
  | 0, m + 1, i, acc, hi, hm, hB => by
    have : i = xs.length := by omega
    subst this
    unfold L147_2
    simp
  | k + 1, m + 1, i, acc, hi, hm, hB => by
    have hlt : i < xs.length := by omega
    have h9 := hr _ (getD_mem xs i [] hlt)
    unfold L147_2
    simp only [lt_ii, le_0i, hlt, Int.toNat_natCast, if_true, decide_true, cond_true]
    rw [if_pos (by rw [List.length_take]; omega), if_pos (by simp only [List.length_cons, List.length_nil]; omega), if_pos (by simp only [List.length_cons, List.length_nil]; omega), take_self xs i [] hlt, w64s (k := k) (by omega), L147_2_eq R n l first x12 x13 x14 xs hx hr k m (i + 1) _ (by omega) (by omega) (by simp only [List.length_append, List.length_cons, List.length_nil]; omega), getD_drop xs i [] hlt, List.map_cons, List.append_assoc]
    rfl
theorem L147_0_eq (R : List Int → Option (List (List Int) × Unit)) (n : Nat) (hn : 1048576 < n) (l : List Int) (k : Nat) (hl : l.length = k + 1) (hk : k + 1 ≤ 6) (hR : ∀ l' : List Int, l'.length = k → R l' = some (pmF k l', ())) : ∀ (j m i : Nat) (acc : List (List Int)), i + j = l.length → j < m → acc.length + j * 720 ≤ 100000 →
    L147_0 R n m l acc l (l.length : Int) (i : Int) = some (.inl (acc ++ (List.range' i j).flatMap (fun i => (pmF k (l.eraseIdx i)).map fun r => l.getD i 0 :: r), ()))
  | 0, m + 1, i, acc, hi, hm, hB => by
    have : i = l.length := by omega
    subst this
    unfold L147_0
    simp
  | j + 1, m + 1, i, acc, hi, hm, hB => by
    have hlt : i < l.length := by omega
    have he : (l.eraseIdx i).length = k := by rw [List.length_eraseIdx, if_pos hlt]; omega
    have hc := pmF_cnt k _ he
    have hf := fct_le k (by omega)
    have hp := pmF_len k _ (Nat.le_of_eq he)
    have h2 := L147_2_eq R n l (l.getD i 0) l (l.length : Int) (i : Int) (pmF k (l.eraseIdx i)) (by omega) (fun r hr => by rw [hp r hr]; omega) (pmF k (l.eraseIdx i)).length n 0 acc (by omega) (by omega) (by omega)
    rw [show ((0 : Nat) : Int) = 0 from rfl, List.drop_zero] at h2
    unfold L147_0
    simp only [lt_ii, le_0i, hlt, Int.toNat_natCast, if_true, decide_true, cond_true]
    rw [F118_eq n l (by omega), Option.bind_some]
    simp only
    rw [F158_eq n l i hlt (by omega), Option.bind_some]
    simp only
    rw [hR _ he, Option.bind_some]
    simp only
    rw [h2]
    simp only
    rw [w64s (k := j) (by omega), L147_0_eq R n hn l k hl hk hR j m (i + 1) _ (by omega) (by omega) (by rw [List.length_append, List.length_map]; omega), List.range'_succ, List.flatMap_cons, List.append_assoc]
theorem F147_eq : ∀ (k n : Nat) (l : List Int), l.length = k → k ≤ 6 → 1048577 + k < n → F147 n l = some (pmF k l, ())
  | 0, n + 1, l, h, _, _ => by
    rw [F147]
    unfold G147
    rw [beq_int, decide_eq_true (by omega)]
    rfl
  | k + 1, n + 1, l, h, hk, hn => by
    have h0 := L147_0_eq (F147 n) n (by omega) l k h hk (fun l' h' => F147_eq k n l' h' (by omega) (by omega)) l.length n 0 [] (by omega) (by omega) (by rw [h]; simp only [List.length_nil]; omega)
    rw [show ((0 : Nat) : Int) = 0 from rfl, List.nil_append] at h0
    rw [F147]
    unfold G147
    rw [beq_int, decide_eq_false (by omega), cond_false, h0]
    rw [pmF, if_neg (by omega), List.range_eq_range']

/-! ### Orders -/
abbrev S3 := List (List D3) × List E3 × List D3
theorem L116_4_eq (n : Nat) (s : S3) (c c' : Int) (head : List (List Int)) (hh : head.length ≤ 1000) (os : List (List (List Int))) (ol j : Int) (xs : List (List Int)) (hx : xs.length ≤ 1000000) : ∀ (k m i : Nat) (acc : List (List (List Int))), i + k = xs.length → k < m → acc.length + k ≤ 100000000000 →
    L116_4 n m (s, ()) c acc head c' os ol j xs (xs.length : Int) (i : Int) = some (.inl ((s, ()), c, acc ++ (xs.drop i).map (fun r => head ++ [r]), c', os, ol, j, ()))
  | 0, m + 1, i, acc, hi, hm, hB => by
    have : i = xs.length := by omega
    subst this
    unfold L116_4
    simp
  | k + 1, m + 1, i, acc, hi, hm, hB => by
    have hlt : i < xs.length := by omega
    unfold L116_4
    simp only [lt_ii, le_0i, hlt, Int.toNat_natCast, if_true, decide_true, cond_true]
    rw [F148_eq n head (by omega), Option.bind_some]
    simp only
    rw [if_pos (by simp only [List.length_cons, List.length_nil]; omega), if_pos (by simp only [List.length_cons, List.length_nil]; omega), w64s (k := k) (by omega), L116_4_eq n s c c' head hh os ol j xs hx k m (i + 1) _ (by omega) (by omega) (by simp only [List.length_append, List.length_cons, List.length_nil]; omega), getD_drop xs i [] hlt, List.map_cons, List.append_assoc]
    rfl
section
variable {p : List (List D3)} {evs : List E3} {ds : List D3} (W : Evs p evs ds)
include W
theorem L116_2_eq (n : Nat) (hn : 1048577 + 10 < n) (y : List (List D3)) (z : List E3) (c : Nat) (c' : Int) (h6 : usesN ds ≤ 6) (os : List (List (List Int))) (ho : ∀ o ∈ os, o.length ≤ 1000) (hol : os.length ≤ 1000000) : ∀ (k m j : Nat) (acc : List (List (List Int))), j + k = os.length → k < m → acc.length + k * 720 ≤ 100000000000 →
    L116_2 n m ((y, z, ds), ()) (c : Int) acc c' os (os.length : Int) (j : Int) = some (.inl (((y, z, ds), ()), acc ++ ext ds c (os.drop j), c', ()))
  | 0, m + 1, j, acc, hi, hm, hB => by
    have : j = os.length := by omega
    subst this
    unfold L116_2 ext
    simp
  | k + 1, m + 1, j, acc, hi, hm, hB => by
    have hs := W.small
    have hl := W.len
    have hlt : j < os.length := by omega
    have hw := w_one (c : Int) ds 0
    have hc := pmF_cnt _ (wsF c 0 ds) rfl
    have hf := fct_le (wsF c 0 ds).length (by omega)
    have h4 := L116_4_eq n (y, z, ds) (c : Int) c' (os.getD j []) (ho _ (getD_mem os j [] hlt)) os (os.length : Int) (j : Int) (pmF (wsF c 0 ds).length (wsF c 0 ds)) (by omega) (pmF (wsF c 0 ds).length (wsF c 0 ds)).length n 0 acc (by omega) (by omega) (by omega)
    rw [show ((0 : Nat) : Int) = 0 from rfl, List.drop_zero] at h4
    unfold L116_2
    simp only [lt_ii, le_0i, hlt, Int.toNat_natCast, if_true, decide_true, cond_true]
    rw [F136_eq W n (by omega), Option.bind_some]
    simp only
    rw [F147_eq _ n _ rfl (by omega) (by omega), Option.bind_some]
    simp only
    rw [h4]
    simp only
    rw [w64s (k := k) (by omega), L116_2_eq n hn y z c c' h6 os ho hol k m (j + 1) _ (by omega) (by omega) (by rw [List.length_append, List.length_map]; omega), getD_drop os j [] hlt]
    unfold ext rowsC
    rw [List.flatMap_cons, List.append_assoc, pm_eq _ (wsF_nodup _ _ _)]
theorem L116_0_step (n : Nat) (hn : 1048577 + 10 < n) (y : List (List D3)) (z : List E3) (h6 : usesN ds ≤ 6) (m c : Nat) (hc : c < 3) (o : List (List (List Int))) (ho : o.length ≤ 46656) (hx : ∀ x ∈ o, x.length ≤ 1000) : L116_0 n (m + 1) ((y, z, ds), ()) o (c : Int) = L116_0 n m ((y, z, ds), ()) (ext ds c o) ((c + 1 : Nat) : Int) := by
  have h2 := L116_2_eq W n hn y z c (c : Int) h6 o hx (by omega) o.length n 0 [] (by omega) (by omega) (by simp only [List.length_nil]; omega)
  rw [show ((0 : Nat) : Int) = 0 from rfl, List.drop_zero, List.nil_append] at h2
  rw [L116_0]
  rw [decide_eq_true (by omega), cond_true, h2]
  simp only
  rw [w64s (k := 0) (by omega)]
theorem F116_eq (n : Nat) (hn : 1048576 + 2000 < n) (y : List (List D3)) (z : List E3) (h6 : usesN ds ≤ 6) : F116 n (y, z, ds) = some (ordsF ds, ()) := by
  have hl := W.len
  have hs := W.small
  have hp : ∀ c : Nat, (rowsC ds c).length ≤ 46656 := fun c => Nat.le_trans (rowsC_few h6 c) (Nat.le_trans (Nat.pow_le_pow_right (by omega) (show _ ≤ 6 from Nat.le_trans (w_one c ds 0) h6)) (Nat.le_of_eq rfl))
  have x0 : ∀ x ∈ ([[]] : List (List (List Int))), x.length = 0 ∧ ∀ r ∈ x, r.length ≤ 1000 := fun x hx => by
    rw [List.mem_singleton.mp hx]; exact ⟨rfl, fun _ h => by cases h⟩
  have x1 := ext_row ds 0 0 [[]] x0 (by omega)
  have x2 := ext_row ds 1 1 _ x1 (by omega)
  have l1 := ext_len ds 0 [[]]
  have l2 := ext_len ds 1 (ext ds 0 [[]])
  rw [l1, List.length_singleton, Nat.one_mul] at l2
  rw [List.length_singleton, Nat.one_mul] at l1
  have h01 : (rowsC ds 0).length * (rowsC ds 1).length ≤ 46656 := by
    have h := w_three ds 0
    have a := Nat.mul_le_mul (rowsC_few h6 0) (rowsC_few h6 1)
    rw [← Nat.pow_add] at a
    refine Nat.le_trans a (Nat.le_trans (Nat.pow_le_pow_right (by omega) (show _ ≤ 6 from ?_)) (Nat.le_of_eq rfl))
    have e0 : (((0 : Nat) : Int)) = 0 := rfl
    have e1 : (((1 : Nat) : Int)) = 1 := rfl
    rw [e0, e1]
    omega
  obtain ⟨m, rfl⟩ : ∃ m, n = m + 4 := ⟨n - 4, by omega⟩
  unfold F116
  have s0 := L116_0_step W (m + 4) (by omega) y z h6 (m + 3) 0 (by omega) [[]] (by simp) (fun x hx => by have := (x0 x hx).1; omega)
  have s1 := L116_0_step W (m + 4) (by omega) y z h6 (m + 2) 1 (by omega) _ (by rw [l1]; exact hp 0) (fun x hx => by have := (x1 x hx).1; omega)
  have s2 := L116_0_step W (m + 4) (by omega) y z h6 (m + 1) 2 (by omega) _ (by rw [l2]; exact h01) (fun x hx => by have := (x2 x hx).1; omega)
  have s3 : L116_0 (m + 4) (m + 1) ((y, z, ds), ()) (ordsF ds) ((3 : Nat) : Int) = some (.inl (ordsF ds, ())) := by
    rw [L116_0]
    rfl
  have e := s0.trans (s1.trans (s2.trans s3))
  rw [show ((0 : Nat) : Int) = 0 from rfl] at e
  simp only [e]
omit W

/-! ### Who read from whom -/
theorem len_flat {α β : Type} (f : α → List β) : ∀ l : List α, (∀ x ∈ l, 1 ≤ (f x).length) → l.length ≤ (l.flatMap f).length
  | [], _ => by simp
  | x :: l, h => by
    have h1 := len_flat f l fun y hy => h y (List.mem_cons_of_mem _ hy)
    have h2 := h x List.mem_cons_self
    rw [List.flatMap_cons, List.length_append, List.length_cons]
    omega
theorem fm_pos (ds : List D3) (l : List D3) (acc : List Int) : 1 ≤ (fm ds l acc).length := List.length_pos_of_mem (nob_mem ds l acc)
theorem L117_4_eq (n : Nat) (s : S3) (cs : List Int) (head : List Int) (hh : head.length ≤ 1000) (dl : List D3) (x28 x29 : Int) (os : List (List Int)) (ol j : Int) (xs : List Int) (hx : xs.length ≤ 1000000) : ∀ (k m i : Nat) (acc : List (List Int)), i + k = xs.length → k < m → acc.length + k ≤ 100000000 →
    L117_4 n m (s, ()) cs acc head dl x28 x29 os ol j xs (xs.length : Int) (i : Int) = some (.inl ((s, ()), cs, acc ++ (xs.drop i).map (fun r => head ++ [r]), dl, x28, x29, os, ol, j, ()))
  | 0, m + 1, i, acc, hi, hm, hB => by
    have : i = xs.length := by omega
    subst this
    unfold L117_4
    simp
  | k + 1, m + 1, i, acc, hi, hm, hB => by
    have hlt : i < xs.length := by omega
    unfold L117_4
    simp only [lt_ii, le_0i, hlt, Int.toNat_natCast, if_true, decide_true, cond_true]
    rw [F118_eq n head (by omega), Option.bind_some]
    simp only
    rw [if_pos (by simp only [List.length_cons, List.length_nil]; omega), if_pos (by simp only [List.length_cons, List.length_nil]; omega), w64s (k := k) (by omega), L117_4_eq n s cs head hh dl x28 x29 os ol j xs hx k m (i + 1) _ (by omega) (by omega) (by simp only [List.length_append, List.length_cons, List.length_nil]; omega), getD_drop xs i 0 hlt, List.map_cons, List.append_assoc]
    rfl
theorem L117_2_eq (n : Nat) (hn : 1048576 < n) (s : S3) (cs : List Int) (hc : cs.length ≤ 2000) (dl : List D3) (x28 x29 : Int) (os : List (List Int)) (ho : ∀ o ∈ os, o.length ≤ 1000) (hol : os.length ≤ 1000000) : ∀ (k m j : Nat) (acc : List (List Int)), j + k = os.length → k < m → acc.length + k * cs.length ≤ 100000000 →
    L117_2 n m (s, ()) cs acc dl x28 x29 os (os.length : Int) (j : Int) = some (.inl ((s, ()), acc ++ (os.drop j).flatMap (fun h => cs.map fun r => h ++ [r]), dl, x28, x29, ()))
  | 0, m + 1, j, acc, hi, hm, hB => by
    have : j = os.length := by omega
    subst this
    unfold L117_2
    simp
  | k + 1, m + 1, j, acc, hi, hm, hB => by
    have hlt : j < os.length := by omega
    rw [Nat.succ_mul] at hB
    have h4 := L117_4_eq n s cs (os.getD j []) (ho _ (getD_mem os j [] hlt)) dl x28 x29 os (os.length : Int) (j : Int) cs (by omega) cs.length n 0 acc (by omega) (by omega) (by omega)
    rw [show ((0 : Nat) : Int) = 0 from rfl, List.drop_zero] at h4
    unfold L117_2
    simp only [lt_ii, le_0i, hlt, Int.toNat_natCast, if_true, decide_true, cond_true]
    rw [h4]
    simp only
    rw [w64s (k := k) (by omega), L117_2_eq n hn s cs hc dl x28 x29 os ho hol k m (j + 1) _ (by omega) (by omega) (by rw [List.length_append, List.length_map]; omega), getD_drop os j [] hlt, List.flatMap_cons, List.append_assoc]
/-- One more event. -/
def nxtF (ds : List D3) (d : D3) (out : List (List Int)) : List (List Int) := out.flatMap fun h => (chs ds d).map fun r => h ++ [r]
theorem nxtF_fm (ds : List D3) (d : D3) (l : List D3) (out : List (List Int)) : (nxtF ds d out).flatMap (fun h => fm ds l h) = out.flatMap fun h => fm ds (d :: l) h := by
  unfold nxtF
  rw [List.flatMap_assoc]
  refine flat_congr fun h _ => ?_
  rw [List.flatMap_map, fm_cons]
theorem nxtF_len (ds : List D3) (d : D3) : ∀ out : List (List Int), (nxtF ds d out).length = out.length * (chs ds d).length
  | [] => by simp [nxtF]
  | x :: out => by
    have h := nxtF_len ds d out
    unfold nxtF at h ⊢
    rw [List.flatMap_cons, List.length_append, List.length_map, List.length_cons, Nat.succ_mul, Nat.add_comm, h]
include W
theorem L117_0_eq (n : Nat) (hn : 1048576 < n) (y : List (List D3)) (z : List E3) : ∀ (k m a : Nat) (out : List (List Int)), a + k = ds.length → k < m → (∀ h ∈ out, h.length = a) → (out.flatMap fun h => fm ds (ds.drop a) h).length ≤ 117649 →
    L117_0 n m ((y, z, ds), ()) out ds (ds.length : Int) (a : Int) = some (.inl (out.flatMap (fun h => fm ds (ds.drop a) h), ()))
  | 0, m + 1, a, out, hi, hm, ho, hB => by
    have : a = ds.length := by omega
    subst this
    unfold L117_0
    simp [fm]
  | k + 1, m + 1, a, out, hi, hm, ho, hB => by
    have hs := W.small
    have hl := W.len
    have hlt : a < ds.length := by omega
    have hw := wsF_len (ds.getD a D0).2.1 ds 0
    have hw' : (wsF (ds.getD a ((0 : Int), (0 : Int), (0 : Int))).2.1 0 ds).length ≤ ds.length := hw
    have hB0 := Nat.le_trans (len_flat _ out fun h _ => fm_pos ds (ds.drop a) h) hB
    rw [getD_drop ds a D0 hlt] at hB
    rw [← nxtF_fm] at hB
    have hB1 := Nat.le_trans (len_flat _ (nxtF ds (ds.getD a D0) out) fun h _ => fm_pos ds (ds.drop (a + 1)) h) hB
    have hcl : (chs ds (ds.getD a D0)).length ≤ 1000 + 1 := by
      unfold chs
      split
      · simp only [List.length_cons]; omega
      · simp
    have hcl2 : out.length * (chs ds (ds.getD a D0)).length ≤ 117649 := by
      rw [← nxtF_len]; exact hB1
    have hon : ∀ h ∈ nxtF ds (ds.getD a D0) out, h.length = a + 1 := fun h hh => by
      obtain ⟨q, h1, h2⟩ := List.mem_flatMap.mp hh
      obtain ⟨r, _, h3⟩ := List.mem_map.mp h2
      rw [← h3, List.length_append, ho q h1]
      rfl
    have ih := L117_0_eq n hn y z k m (a + 1) (nxtF ds (ds.getD a D0) out) (by omega) (by omega) hon hB
    have h2 := L117_2_eq n hn (y, z, ds) (chs ds (ds.getD a D0)) (by omega) ds (ds.length : Int) (a : Int) out (fun h hh => by rw [ho h hh]; omega) (by omega) out.length n 0 [] (by omega) (by omega) (by simp only [List.length_nil]; omega)
    rw [show ((0 : Nat) : Int) = 0 from rfl, List.drop_zero, List.nil_append] at h2
    have hw9 : IntKind.i64.wrap ((a : Int) + 1) = ((a + 1 : Nat) : Int) := w64s (k := k) (by omega)
    rw [getD_drop ds a D0 hlt, ← nxtF_fm]
    unfold L117_0
    simp only [lt_ii, le_0i, hlt, Int.toNat_natCast, if_true, decide_true, cond_true, eta3, F121_eq, Option.bind_some, J117_8, J117_19]
    by_cases hr : rd (ds.getD a D0) = true
    · have e : chs ds (ds.getD a D0) = [-1] ++ wsF (ds.getD a D0).2.1 0 ds := by
        unfold chs
        rw [if_pos hr]
        rfl
      rw [hr, cond_true, F136_eq W n hn, Option.bind_some, if_pos (by simp only [List.length_cons, List.length_nil]; omega)]
      rw [e] at h2
      simp only [h2, hw9]
      rw [← e]
      exact ih
    · have e : chs ds (ds.getD a D0) = [-2] := by
        unfold chs
        rw [if_neg hr]
      have hr' : rd (ds.getD a D0) = false := by simpa using hr
      rw [e] at h2
      rw [hr', cond_false]
      simp only [h2, hw9]
      rw [← e]
      exact ih
theorem F117_eq (n : Nat) (hn : 1048576 + 2000 < n) (y : List (List D3)) (z : List E3) (hB : (fm ds ds []).length ≤ 117649) : F117 n (y, z, ds) = some (fm ds ds [], ()) := by
  have hs := W.small
  have hl := W.len
  have h0 := L117_0_eq W n (by omega) y z ds.length n 0 [[]] (by omega) (by omega) (fun h hh => by rw [List.mem_singleton.mp hh]; rfl) (by simpa using hB)
  rw [show ((0 : Nat) : Int) = 0 from rfl, List.drop_zero] at h0
  unfold F117
  simp only [h0]
  simp
end

/-! ### All -/
theorem L75_4_eq (n : Nat) (s : S3) (os : List (List (List Int))) (al : List Xn) (f : List Int) (fs : List (List Int)) (x26 x27 : Int) (x29 x30 : Int) (o : List (List Int)) (hl : o.length ≤ 1000) (hr : ∀ r ∈ o, r.length ≤ 1000) : ∀ (k m c : Nat) (acc : List (List Int)), c + k = o.length → k < m → acc.length + k ≤ 1000 →
    L75_4 n m (s, ()) os al f (f, acc, ()) fs x26 x27 os x29 x30 o (o.length : Int) (c : Int) = some (.inl ((s, ()), os, al, f, (f, acc ++ o.drop c, ()), fs, x26, x27, os, x29, x30, ()))
  | 0, m + 1, c, acc, hc, hm, hB => by
    have : c = o.length := by omega
    subst this
    unfold L75_4
    simp
  | k + 1, m + 1, c, acc, hc, hm, hB => by
    have hlt : c < o.length := by omega
    have h9 := hr _ (getD_mem o c [] hlt)
    unfold L75_4
    simp only [lt_ii, le_0i, hlt, Int.toNat_natCast, if_true, decide_true, cond_true]
    rw [F118_eq n _ (by omega), Option.bind_some]
    simp only
    rw [if_pos (by simp only [List.length_cons, List.length_nil]; omega), w64s (k := k) (by omega), L75_4_eq n s os al f fs x26 x27 x29 x30 o hl hr k m (c + 1) _ (by omega) (by omega) (by simp only [List.length_append, List.length_cons, List.length_nil]; omega), List.append_assoc, getD_drop o c [] hlt]
    rfl
section
variable {p : List (List D3)} (hp : progOk p = true)
include hp
theorem L75_2_eq (n : Nat) (hn : 1048576 < n) (f : List Int) (hf : f ∈ fm (dsP p) (dsP p) []) (fs : List (List Int)) (x14 x15 : Int) (os : List (List (List Int))) (hos : ∀ o ∈ os, o ∈ ordsF (dsP p)) (ho : ∀ x ∈ os, x.length = 3 ∧ ∀ r ∈ x, r.length ≤ 1000) (hol : os.length ≤ 1000000) : ∀ (k m j : Nat) (al : List Xn), j + k = os.length → k < m → al.length + k ≤ 100000000000 →
    L75_2 n m ((p, evP 0 p, dsP p), ()) os al f fs x14 x15 os (os.length : Int) (j : Int) = some (.inl (((p, evP 0 p, dsP p), ()), os, al ++ waysF (dsP p) f (os.drop j), fs, x14, x15, ()))
  | 0, m + 1, j, al, hj, hm, hB => by
    have : j = os.length := by omega
    subst this
    unfold L75_2 waysF
    simp
  | k + 1, m + 1, j, al, hj, hm, hB => by
    have hlt : j < os.length := by omega
    have W := evs_ok hp
    have hds := W.len
    have hsm := W.small
    have hmo := getD_mem os j [] hlt
    obtain ⟨h3, hr⟩ := ho _ hmo
    have hfl := (fm_Fit hf).1
    have hw9 : IntKind.i64.wrap ((j : Int) + 1) = ((j + 1 : Nat) : Int) := w64s (k := k) (by omega)
    have h4 := L75_4_eq n (p, evP 0 p, dsP p) os al f fs x14 x15 (os.length : Int) (j : Int) (os.getD j []) (by omega) hr (os.getD j []).length n 0 [] (by omega) (by omega) (by simp only [List.length_nil]; omega)
    rw [show ((0 : Nat) : Int) = 0 from rfl, List.drop_zero, List.nil_append] at h4
    have hF := F71_eq n hn p (f, os.getD j []) ⟨by show (os.getD j []).length ≤ 1048576; omega, fun t ht => by have := hr t ht; omega⟩ hp
    rw [ways_form W.frm hf (hos _ hmo), Bool.true_and] at hF
    unfold L75_2
    simp only [lt_ii, le_0i, hlt, Int.toNat_natCast, if_true, decide_true, cond_true]
    rw [F118_eq n f (by omega), Option.bind_some]
    simp only
    rw [h4]
    simp only [J75_17, hw9]
    rw [show F71 n (p, evP 0 p, dsP p) (f, os.getD j []) = _ from hF, Option.bind_some]
    have e : waysF (dsP p) f (os.drop j) = (if allOk (dsP p) f (dsP p).length 0 = true then [(f, os.getD j [])] else []) ++ waysF (dsP p) f (os.drop (j + 1)) := by
      unfold waysF
      rw [getD_drop os j [] hlt, List.flatMap_cons]
    rw [e]
    cases hk : allOk (dsP p) f (dsP p).length 0
    · simp only [cond_false, Bool.false_eq_true, if_false, List.nil_append]
      rw [L75_2_eq n hn f hf fs x14 x15 os hos ho hol k m (j + 1) al (by omega) (by omega) (by omega)]
    · simp only [cond_true, if_true]
      rw [if_pos (by simp only [List.length_cons, List.length_nil]; omega), L75_2_eq n hn f hf fs x14 x15 os hos ho hol k m (j + 1) _ (by omega) (by omega) (by simp only [List.length_append, List.length_cons, List.length_nil]; omega), List.append_assoc]
theorem L75_0_eq (n : Nat) (hn : 1048576 < n) (fs : List (List Int)) (hfs : ∀ f ∈ fs, f ∈ fm (dsP p) (dsP p) []) (hfl : fs.length ≤ 1000000) (os : List (List (List Int))) (hos : ∀ o ∈ os, o ∈ ordsF (dsP p)) (ho : ∀ x ∈ os, x.length = 3 ∧ ∀ r ∈ x, r.length ≤ 1000) (hol : os.length ≤ 46656) : ∀ (k m i : Nat) (al : List Xn), i + k = fs.length → k < m → al.length + k * os.length ≤ 90000000000 →
    L75_0 n m ((p, evP 0 p, dsP p), ()) os al fs (fs.length : Int) (i : Int) = some (.inl (al ++ (fs.drop i).flatMap (fun f => waysF (dsP p) f os), ()))
  | 0, m + 1, i, al, hi, hm, hB => by
    have : i = fs.length := by omega
    subst this
    unfold L75_0
    simp
  | k + 1, m + 1, i, al, hi, hm, hB => by
    have hlt : i < fs.length := by omega
    rw [Nat.succ_mul] at hB
    have h2 := L75_2_eq hp n hn (fs.getD i []) (hfs _ (getD_mem fs i [] hlt)) fs (fs.length : Int) (i : Int) os hos ho (by omega) os.length n 0 al (by omega) (by omega) (by omega)
    rw [show ((0 : Nat) : Int) = 0 from rfl, List.drop_zero] at h2
    have h5 := ways_len (dsP p) (fs.getD i []) os
    unfold L75_0
    simp only [lt_ii, le_0i, hlt, Int.toNat_natCast, if_true, decide_true, cond_true]
    rw [h2]
    simp only
    rw [w64s (k := k) (by omega), L75_0_eq n hn fs hfs hfl os hos ho hol k m (i + 1) _ (by omega) (by omega) (by rw [List.length_append]; omega), List.append_assoc, getD_drop fs i [] hlt, List.flatMap_cons]
theorem F75_eq (n : Nat) (hn : 1048576 + 2000 < n) : F75 n (p, evP 0 p, dsP p) = some (execs p, ()) := by
  have W := evs_ok hp
  have hl := W.len
  have hs := W.small
  have hff := froms_few hp
  obtain ⟨_, g2, g3⟩ := F77_eq W 2000000 (by omega) (uses6 hp)
  have hmul : (fm (dsP p) (dsP p) []).length * (ordsF (dsP p)).length ≤ 117649 * 46656 := Nat.mul_le_mul hff g2
  have h0 := L75_0_eq hp n (by omega) (fm (dsP p) (dsP p) []) (fun f h => h) (by omega) (ordsF (dsP p)) (fun o h => h) g3 g2 (fm (dsP p) (dsP p) []).length n 0 [] (by omega) (by omega) (by simp only [List.length_nil]; omega)
  rw [show ((0 : Nat) : Int) = 0 from rfl, List.drop_zero, List.nil_append] at h0
  unfold F75
  rw [F116_eq W n hn p (evP 0 p) (uses6 hp), Option.bind_some, F117_eq W n hn p (evP 0 p) hff, Option.bind_some]
  simp only [h0]
  rfl
end
theorem F34_eq (n : Nat) (hn : 1048576 + 2000 < n) (p : List (List D3)) (hs : ∀ t ∈ p, t.length ≤ 1048576) : F34 n p = some (if progOk p then execs p else [], ()) := by
  unfold F34
  rw [F69_eq n (by omega) p hs, Option.bind_some]
  cases hp : progOk p
  · rfl
  · simp only [Bool.not_true, cond_false, if_true]
    rw [F70_eq n (by omega) p hs hp, Option.bind_some]
    simp only
    rw [F75_eq hp n hn]
    rfl
end Go.Proofs.Ytdacfaincamliaa.Ev
