/- What the draws of a way come to. Conditions: none. -/
import Derived.Test.YtdacfaincamliaaQD
import Derived.Test.YtdacfaincamliaaGV
import Derived.Test.YtdacfaincamliaaQO
namespace Go.Proofs.Ytdacfaincamliaa.Ev
open Go

def SmallX (e : Xn) : Prop := e.1.length ≤ 2000 ∧ e.2.length ≤ 2000 ∧ ∀ r ∈ e.2, r.length ≤ 2000
theorem SmallX.toI {e : Xn} (h : SmallX e) : SmallI e.2 := ⟨by have := h.2.1; omega, fun t ht => by have := h.2.2 t ht; omega⟩
theorem J82_14_eq (n : Nat) (b : List Int) (p : Int) (x8 : List (List D3) × Unit) (x9 : List Int × List (List Int) × Unit) (q : List (List D3)) (f : List Int) (o : List (List Int)) : J82_14 n ((b, p), ()) x8 x9 (q, ()) (f, o, ()) = some (.inl (((b, p), ()), (q, ()), (f, o, ()), ())) := rfl
theorem F82_ok (n : Nat) (hn : 1048576 + 2000 < n) (b : List Int) (p : Int) (k : Nat) (h : Rd k b p) (hk : k ≤ 1000) (hl : b.length ≤ 1000000) :
    ∃ (q : List (List D3)) (e : Xn) (p' : Int), F82 n ((b, p), ()) = some (q, e, ((b, p'), ()), ()) ∧ Pl 12 q ∧ SmallX e := by
  unfold F82
  obtain ⟨q, p1, h1, h2, h3⟩ := F73_ok n (by omega) b p k h (by omega) hl
  simp only [h1, Option.bind_some]
  rw [F35_eq n hn q, Option.bind_some]
  cases hp : progOk q
  · exact ⟨q, ([-2], [[], [], []]), p1, rfl, h3, by simp, by simp, by simp⟩
  simp only [if_true]
  obtain ⟨hal, hsm⟩ := execs_small hp
  generalize execs q = al at hal hsm
  rw [beq_int]
  by_cases h0 : al.length = 0
  · rw [decide_eq_true (by omega), cond_true]
    exact ⟨q, ([-2], [[], [], []]), p1, rfl, h3, by simp, by simp, by simp⟩
  rw [decide_eq_false (by omega), cond_false]
  obtain ⟨y3, g1, g2, g3, g4⟩ := F114_ok n b p1 (k + 800) (al.length : Int) h2 (by omega) hl
  have g4 := g4 (by omega)
  obtain ⟨i, rfl⟩ := Int.eq_ofNat_of_zero_le g3
  have hi : i < al.length := by omega
  simp only [g1, Option.bind_some, lt_ii, le_0i, hi, Int.toNat_natCast, if_true]
  rw [if_pos (by rw [List.length_take]; omega)]
  obtain ⟨s1, s2, s3⟩ := hsm _ (getD_mem al i ([], []) hi)
  have hX : SmallX (al.getD i ([], [])) := ⟨by show (al.getD i ([], [])).1.length ≤ 2000; omega, by show (al.getD i ([], [])).2.length ≤ 2000; omega, fun r hr => by have := s3 r hr; omega⟩
  obtain ⟨y4, i1, i2, _⟩ := F114_ok n b _ _ 12 g2 (by omega) hl
  simp only [i1, Option.bind_some]
  cases y4 == (0 : Int)
  rotate_left
  · simp only [cond_true]
    by_cases hf : (al.getD i ([], [])).1.length = 0
    · rw [decide_eq_false (by omega), cond_false, J82_14_eq]
      exact ⟨q, ((al.getD i ([], [])).1, (al.getD i ([], [])).2), _, rfl, h3, hX⟩
    · rw [decide_eq_true (by omega), cond_true]
      obtain ⟨y5, j1, j2, j3, j4⟩ := F114_ok n b _ _ ((al.getD i ([], [])).1.length : Int) i2 (by omega) hl
      have j4 := j4 (by omega)
      obtain ⟨y6, m1, m2, _⟩ := F114_ok n b _ _ 7 j2 (by omega) hl
      obtain ⟨a, rfl⟩ := Int.eq_ofNat_of_zero_le j3
      have ha : a < (al.getD i ([], [])).1.length := by omega
      simp only [j1, m1, Option.bind_some, lt_ii, le_0i, ha, Int.toNat_natCast, if_true]
      rw [J82_14_eq]
      exact ⟨q, ((al.getD i ([], [])).1.set a _, (al.getD i ([], [])).2), _, rfl, h3, by show ((al.getD i ([], [])).1.set a _).length ≤ 2000; rw [List.length_set]; omega, hX.2⟩
  simp only [cond_false]
  cases y4 == (1 : Int)
  rotate_left
  · simp only [cond_true, show Int.toNat (0 : Int) = 0 from rfl]
    have hr0 : ((al.getD i ([], [])).2.getD 0 []).length ≤ 1000 := s3 _ (getD_mem (al.getD i ([], [])).2 0 [] (by omega))
    rw [if_pos (by omega), if_pos (by omega), if_pos (by simp only [List.length_cons, List.length_nil]; omega), if_pos (by omega), J82_14_eq]
    refine ⟨q, ((al.getD i ([], [])).1, (al.getD i ([], [])).2.take 0 ++ ((al.getD i ([], [])).2.getD 0 [] ++ [0]) :: (al.getD i ([], [])).2.drop (0 + 1)), _, rfl, h3, hX.1, ?_, fun r hr => ?_⟩
    · simp only [List.length_append, List.length_cons, List.length_take, List.length_drop]; omega
    · rcases List.mem_append.mp hr with hr | hr
      · cases hr
      · rcases List.mem_cons.mp hr with rfl | hr
        · simp only [List.length_append, List.length_cons, List.length_nil]; omega
        · have := s3 r (List.mem_of_mem_drop hr); omega
  simp only [cond_false]
  cases y4 == (2 : Int)
  rotate_left
  · simp only [cond_true]
    rw [if_pos (by simp only [List.length_cons, List.length_nil]; omega), J82_14_eq]
    exact ⟨q, ((al.getD i ([], [])).1 ++ [-2], (al.getD i ([], [])).2), _, rfl, h3, by show ((al.getD i ([], [])).1 ++ [-2]).length ≤ 2000; rw [List.length_append, List.length_singleton]; omega, hX.2⟩
  · simp only [cond_false]
    rw [J82_14_eq]
    exact ⟨q, ((al.getD i ([], [])).1, (al.getD i ([], [])).2), _, rfl, h3, hX⟩
theorem F38_ok (n : Nat) (hn : 1048576 + 2000 < n) (c : List Int) (hc : Bytes c) : ∃ (q : List (List D3)) (e : Xn), (∃ z, F38 n c = some (q, e, z)) ∧ Pl 12 q ∧ SmallX e := by
  obtain ⟨b, h1, h2, h3⟩ := F74_ok n c hc
  obtain ⟨q, e, p', g1, g2, g3⟩ := F82_ok n hn b 0 0 h2 (by omega) h3
  unfold F38
  simp only [h1, Option.bind_some]
  rw [g1]
  exact ⟨q, e, ⟨_, rfl⟩, g2, g3⟩
end Go.Proofs.Ytdacfaincamliaa.Ev
