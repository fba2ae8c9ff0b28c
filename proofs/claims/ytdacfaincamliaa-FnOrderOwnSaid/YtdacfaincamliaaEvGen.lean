/- What the printed texts lean on. Conditions: none. -/
import Derived.Test.YtdacfaincamliaaEvAl
import Derived.KernelRfl
namespace Go.Proofs.Ytdacfaincamliaa.Ev
open Go

def conL (l : List (Nat × Con)) (f : FuncId) : Option Con := (l.find? fun p => p.1 == f).map (·.2)
def lpL (l : List (Nat × Lp)) (id : Nat) : Option Lp := (l.find? fun p => p.1 == id).map (·.2)

def ConsOk (P : Program) : List (Nat × Con) → Prop
  | [] => True
  | p :: l => Con.ok P p.1 p.2 ∧ ConsOk P l

theorem conL_ok {P : Program} : ∀ {l : List (Nat × Con)}, ConsOk P l → ∀ f con, conL l f = some con → Con.ok P f con
  | [], _, f, con, h => by simp [conL] at h
  | p :: l, ⟨h1, h2⟩, f, con, h => by
    unfold conL at h
    rw [List.find?_cons] at h
    split at h
    · rename_i hp
      simp only [Option.map_some, Option.some.injEq] at h
      have : p.1 = f := by simpa using hp
      rw [← h, ← this]
      exact h1
    · exact conL_ok h2 f con h

theorem tbOk {P : Program} {l : List (Nat × Con)} {n k : Nat} {v : List Nat} {lp : Nat → Option Lp} {ct : Nat → Option Ct} {fx : List Nat} {dp : Bool} (hm : P.follows .mixedOrders = true) (hc : ConsOk P l) : Tb.ok P ⟨tiOf P, conL l, n, v, k, lp, ct, fx, dp⟩ :=
  ⟨hm, ⟨fun _ _ h => tiOf_ok h⟩, conL_ok hc⟩

/-- A loop's plain form, by its number. -/
def LpAt (tb : Tb) (body : Code) (id : Nat) : Prop := ∃ l, tb.lp id = some l ∧ LpOk tb body l

theorem lpAt {tb : Tb} {body : Code} {id : Nat} {l : Lp} (h : tb.lp id = some l) (h0 : ∀ v, l.run 0 v = none)
    (h1 : ∀ m v, l.run (m + 1) v = evCode tb body (putVals l.sig v (St.blank tb.n)) fun e st' => if st'.env.length = tb.n then (match e with | .normal => getVals l.sig st' fun v' => l.run m v' | e => getOut l.outs e st' some) else none) : LpAt tb body id := ⟨l, h, h0, h1⟩

def blockBody (c : Code) (id : Nat) : Code := match (blocks c).find? (fun p => p.1 == id) with | some p => p.2 | none => .skip
def loopBody (c : Code) (id : Nat) : Code := match blockBody c id with | .loop b => b | _ => .skip

def BlOk (tb : Tb) (l : List (Nat × Code)) : Prop := ∀ p ∈ l, ∀ lp, tb.lp p.1 = some lp → ∃ body, p.2 = .loop body ∧ LpOk tb body lp
theorem bl_nil {tb : Tb} : BlOk tb [] := fun p hp => by cases hp
theorem bl_loop {tb : Tb} {id : Nat} {b : Code} {l : List (Nat × Code)} (h : LpAt tb b id) (hl : BlOk tb l) : BlOk tb ((id, .loop b) :: l) := by
  intro p hp lp hlp
  rcases List.mem_cons.mp hp with rfl | hp
  · obtain ⟨l', h1, h2⟩ := h
    rw [h1] at hlp
    injection hlp with hlp
    rw [← hlp]
    exact ⟨b, rfl, h2⟩
  · exact hl p hp lp hlp
theorem bl_none {tb : Tb} {id : Nat} {c : Code} {l : List (Nat × Code)} (h : tb.lp id = none) (hl : BlOk tb l) : BlOk tb ((id, c) :: l) := by
  intro p hp lp hlp
  rcases List.mem_cons.mp hp with rfl | hp
  · rw [h] at hlp
    cases hlp
  · exact hl p hp lp hlp
def CsOk (tb : Tb) (l : List (Option Nat × Code)) : Prop := ∀ p ∈ l, ∀ c, p.1.bind tb.ct = some c → CtOk tb p.2 c
theorem cs_nil {tb : Tb} : CsOk tb [] := fun p hp => by cases hp
theorem cs_one {tb : Tb} {id : Nat} {b : Code} {l : List (Option Nat × Code)} {c : Ct} (h : tb.ct id = some c) (hc : CtOk tb b c) (hl : CsOk tb l) : CsOk tb ((some id, b) :: l) := by
  intro p hp c' hc'
  rcases List.mem_cons.mp hp with rfl | hp
  · have h2 : tb.ct id = some c' := hc'
    rw [h] at h2
    injection h2 with h2
    rw [← h2]
    exact hc
  · exact hl p hp c' hc'
theorem cs_none {tb : Tb} {o : Option Nat} {b : Code} {l : List (Option Nat × Code)} (h : o.bind tb.ct = none) (hl : CsOk tb l) : CsOk tb ((o, b) :: l) := by
  intro p hp c' hc'
  rcases List.mem_cons.mp hp with rfl | hp
  · rw [h] at hc'
    cases hc'
  · exact hl p hp c' hc'
/-- No joins. -/
theorem cs_no {tb : Tb} {l : List (Option Nat × Code)} (h : ∀ id, tb.ct id = none) : CsOk tb l := by
  intro p _ c hc
  cases hp : p.1 with
  | none => rw [hp] at hc; cases hc
  | some id => rw [hp] at hc; rw [Option.bind_some, h] at hc; cases hc
def ctL (l : List (Nat × Ct)) (id : Nat) : Option Ct := (l.find? fun p => p.1 == id).map (·.2)
def sec (c : Code) (i : Nat) : Option Nat × Code := (seconds c).getD i (none, .skip)
def secondBody (c : Code) (id : Nat) : Code := match (seconds c).find? (fun p => p.1 == some id) with | some p => p.2 | none => .skip

theorem lpAll {tb : Tb} {c : Code} {l : List (Nat × Code)} {l2 : List (Option Nat × Code)} (h : blocks c = l) (hb : BlOk tb l) (h2 : seconds c = l2) (hc : CsOk tb l2) (hfx : fixOk tb.fixed c = true) : LpAll tb c :=
  ⟨hfx, by rw [h]; exact hb, by rw [h2]; exact hc⟩
theorem body_la {tb : Tb} {fn : Func} {c : Code} (h : fn.body = some c) (hl : LpAll tb c) : ∀ code, fn.body = some code → LpAll tb code := by
  intro code hc
  rw [h] at hc
  injection hc with hc
  rw [← hc]
  exact hl
theorem enters {P : Program} {f : FuncId} {fn : Func} (hf : P.funcs[f]? = some fn) (hn : (fn.name == "runtime.NumGoroutine") = false) (hb : fn.body.isNone = false) : ∀ args w, (callFunc f args).run P w = .ok (.enter f args) w := by
  intro args w
  unfold callFunc
  simp only [Sem.run_bind, run_program, Result.andThen_ok, hf]
  simp only [hn, hb, Bool.false_eq_true, if_false, Sem.run_pure]

end Go.Proofs.Ytdacfaincamliaa.Ev
