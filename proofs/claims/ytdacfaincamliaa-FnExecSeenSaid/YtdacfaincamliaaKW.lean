/- A callee that keeps what it is handed to itself may be handed what its caller goes on writing to later. Conditions: those of each theorem. -/
import Derived.Test.YtdacfaincamliaaEvAl
namespace Go.Proofs.Ytdacfaincamliaa.Ev
open Go Go.Proofs
variable {P : Program} {tb : Tb}

theorem ck_nil {c c' : Cx} {cs : List Value} (h : CKsRel c [] () cs) : CKsRel c' [] () cs := by
  cases cs with
  | nil => trivial
  | cons y cs => exact h.elim
theorem ck_weak {ci : Cx} {A : Ty} {x : A.den} {cs : List Value} (h : CKsRel ci [.v false A] (x, ()) cs) : CKsRel { ci with I := ci.T } [.v true A] (x, ()) cs :=
  ⟨RdE.step (agree.refl _ _) (fun k hk => hk) h.1, ck_nil h.2⟩
theorem ck_own {c : Cx} {J : Nat → Prop} {T : Ty} {x : T.den} {cs : List Value} (h : CKsRel c [.o T] (x, ()) cs) : CKsRel { c with I := J } [.o T] (x, ()) cs := ⟨h.1, h.2.1, ck_nil h.2.2⟩
theorem ck_bool {c : Cx} {J : Nat → Prop} {x : Bool} {cs : List Value} (h : CKsRel c [.v true .bool] (x, ()) cs) : CKsRel { c with I := J } [.v true .bool] (x, ()) cs := ⟨h.1, ck_nil h.2⟩

theorem fn_calls (htb : tb.ok P) {f : FuncId} {fn : Func} (hla : ∀ code, fn.body = some code → LpAll tb code) (hf : P.funcs[f]? = some fn) {ps rs : List LK} (hfx : tb.fixed = mutNums (num 0 ps)) {F : pdens ps → Option (rdens ps rs)}
    (h : ∀ xs, evSig tb fn ps rs xs = F xs) (ci : Cx) (args : Array Value) (xs : pdens ps) (ys : rdens ps rs) (hys : F xs = some ys) (hD : ci.D = []) (hs : ∀ k, ci.I k → ci.T k) (hl : ∀ k, ci.T k → k < ci.w.heap.size) (hsz : args.size = ps.length) (hsig : SigRel ci (argTmps fn args) (num 0 ps) xs) (hO : ∀ g, OBs ci.w (argTmps fn args) (num 0 ps) g → ¬ ci.T g) :
    Calls P f args ci.w fun e w' => ∃ (c3 : Cx) (zs : List Value), e = .returned (mkRes zs) ∧ zs.length = rs.length ∧ Step ci c3 ∧ c3.w = w' ∧ (∀ k, c3.I k → c3.T k) ∧ (∀ k, c3.T k → k < c3.w.heap.size) ∧
        SigRel c3 (zs ++ (mutNums (num 0 ps)).map fun s => (argTmps fn args).getD s undef).toArray (num 0 (rs ++ muts ps)) ys ∧ ∀ g, OBs c3.w (zs ++ (mutNums (num 0 ps)).map fun s => (argTmps fn args).getD s undef).toArray (num 0 (rs ++ muts ps)) g → ¬ c3.T g ∧ g < c3.w.heap.size := by
    rw [← h xs] at hys
    refine (evFn_calls (c := ci) htb hla hf hys (by rw [num_length, hsz]) hD hs hl hsig hO).mono fun e w' hh => ?_
    obtain ⟨c2, vs2, zs, st2, tmps2, rfl, k1, k2, k3, k4, rfl, k5⟩ := hh
    split at k1
    rotate_left
    · cases k1
    rename_i ms hms
    split at k1
    rotate_left
    · cases k1
    rename_i hlen
    have hmv := mutVals_rel k2 hms
    have hmap : (mutNums (num 0 ps)).map (fun s => tmps2.getD s undef) = (mutNums (num 0 ps)).map (fun s => (argTmps fn args).getD s undef) := List.map_congr_left fun s hs => k5 s (by rw [hfx]; exact hs)
    rw [hmap] at hmv
    have hrR : Rel c2 { env := (vs2 ++ ms).map .one, store := st2.store } (zs ++ (mutNums (num 0 ps)).map fun s => (argTmps fn args).getD s undef).toArray := ⟨k2.s, by
      show All2 _ _ (zs ++ (mutNums (num 0 ps)).map fun s => (argTmps fn args).getD s undef).toArray.toList
      simp only
      exact All2.map (k3.append hmv)⟩
    obtain ⟨ys', c3, g1, g2, g3, g4, g5, g6⟩ := getVals_some k1 hrR
    injection g1 with g1
    subst g1
    refine ⟨c3, zs, rfl, by rw [← k3.length, hlen], k4.trans g2.step, g2.w, g3, g4, g5, fun g hg => ?_⟩
    obtain ⟨⟨i, i1, i2⟩, i3⟩ := g6 g (by rw [← g2.w]; exact hg)
    refine ⟨i3, ?_⟩
    rw [g2.w]
    exact k2.s.ltX i1 i2

/-- Two structs that are lent, and one struct of own rows and a bool that come back. -/
theorem conOf_weak2 (htb : tb.ok P) {f : FuncId} {fn : Func} (hla : ∀ code, fn.body = some code → LpAll tb code) (hf : P.funcs[f]? = some fn) (henter : ∀ args w, (callFunc f args).run P w = .ok (.enter f args) w) {A B T : Ty} (hk : ([.c true (.o T), .c false (.v true .bool)] : List LK).all LK.kept = true) (hfx : tb.fixed = [])
    {F : A.den → B.den → Option (rdens [.c true (.v true A), .c true (.v true B)] [.c true (.o T), .c false (.v true .bool)])}
    (h : ∀ xs : pdens [.c true (.v true A), .c true (.v true B)], evSig tb fn [.c true (.v true A), .c true (.v true B)] [.c true (.o T), .c false (.v true .bool)] xs = F xs.1 xs.2.1) :
    Con.ok P f (conOf [.c true (.v false A), .c true (.v false B)] [.c true (.o T), .c false (.v true .bool)] fun x => F x.1 x.2.1) := by
  refine conOf_gen henter hk (pad := argTmps fn) (fun args j y hj => ?_) fun ci args xs ys hys hD hs hl hsz hsig hO => ?_
  · have hlt : j < args.size := by
      have := (List.getElem?_eq_some_iff.mp hj).1
      rwa [Array.length_toList] at this
    rw [Array.getElem?_toList] at hj
    unfold argTmps
    rw [Nat.zero_add, Array.getD_eq_getD_getElem?, Array.getElem?_append_left hlt, hj]
    rfl
  · let c' : Cx := { ci with I := ci.T }
    have hsig' : SigRel c' (argTmps fn args) (num 0 [.c true (.v true A), .c true (.v true B)]) xs := by
      obtain ⟨⟨s1, r1⟩, n1, ⟨s2, r2⟩, n2, n3⟩ := hsig
      refine ⟨⟨s1, ?_⟩, n1, ⟨s2, ?_⟩, n2, trivial⟩
      · exact ck_weak r1
      · exact ck_weak r2
    refine (fn_calls (ps := [.c true (.v true A), .c true (.v true B)]) (rs := [.c true (.o T), .c false (.v true .bool)]) (F := fun x => F x.1 x.2.1) htb hla hf hfx h c' args xs ys hys hD (fun k hk => hk) hl hsz hsig' hO).mono fun e w' hh => ?_
    obtain ⟨c3, zs, he, hzl, hst, hw, g3, g4, g5, g6⟩ := hh
    let c4 : Cx := { c3 with I := fun k => c3.I k ∧ (ci.T k → ci.I k) }
    have hst' : Step ci c4 := ⟨hst.below, hst.agree, hst.T, fun k hk => ⟨hst.I k (hs k hk), fun _ => hk⟩, fun k hk => by
      by_cases hT : ci.T k
      · exact .inl (hk.2 hT)
      · exact .inr hT⟩
    refine ⟨c4, zs, he, hzl, hst', hw, fun k hk => g3 k hk.1, g4, ?_, g6⟩
    obtain ⟨⟨s1, r1⟩, n1, ⟨s2, r2⟩, n2, n3⟩ := g5
    exact ⟨⟨s1, ck_own r1⟩, n1, ⟨s2, ck_bool r2⟩, n2, trivial⟩
end Go.Proofs.Ytdacfaincamliaa.Ev
