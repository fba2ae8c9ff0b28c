/- An evaluator of loaded code over abstract values: its definitions. Conditions: none. -/
import Derived.Calls
import Derived.Tactics
import Derived.Laws.Sem
import Derived.OrdersHeld
namespace Go.Proofs.Ytdacfaincamliaa.Ev
open Go

/-- What a cell's, or an element's, data is. -/
inductive Ty where
  | int (k : IntKind)
  | bool
  | str
  | rs (e : TypeId) (t : Ty)
  | pair (a b : Ty)
  deriving DecidableEq

@[reducible] def Ty.den : Ty → Type
  | .int _ => Int
  | .bool => Bool
  | .str => ByteArray
  | .rs _ t => List t.den
  | .pair a b => a.den × b.den

def Ty.sz : Ty → Nat
  | .pair a b => a.sz + b.sz
  | _ => 1

def Ty.dflt : (t : Ty) → t.den
  | .int _ => (0 : Int)
  | .bool => false
  | .str => ByteArray.empty
  | .rs _ _ => []
  | .pair a b => (a.dflt, b.dflt)

/-- Data of several types. -/
@[reducible] def tdens : List Ty → Type
  | [] => Unit
  | t :: ts => t.den × tdens ts

/-- What is known of one cell's value. rd: a slice that is read; lt: it stays for good (else: for this call). own: a row of the call's own, by its number. ptr: a place in a block of the call's own. elp: a place in a row of the call's own. rdp: a place in an element that is read. clo: a function with its first argument. fnc: a function. cap: a function with what it has caught. -/
inductive Leaf where
  | v (x : Value)
  | rd (lt : Bool) (e : TypeId) (t : Ty) (xs : List t.den)
  | own (id : Nat)
  | ptr (id off : Nat)
  | elp (id sz i off : Nat)
  | rdp (lt : Bool) (t : Ty) (x : t.den) (off : Nat)
  | clo (lt : Bool) (f : FuncId) (agg : Bool) (t : Ty) (x : t.den)
  | fnc (f : FuncId)
  | cap (lt : Bool) (f : FuncId) (ts : List Ty) (x : tdens ts)
  | dead

inductive V1 where
  | lf (l : Leaf)
  | agg (ls : List Leaf)

inductive AV where
  | one (v : V1)
  | tup (vs : List V1)
  | fn (f : FuncId) (caps : List Leaf)
  | dead

/-- box: a block. row: a row of the call's own, as a list. lrow: such a row of which each cell is known. deep: such a row, whose elements' rows are the call's own too. zip: a deep row of which one element's cells are known. -/
inductive Ent where
  | box (t : TypeId) (cells : List Leaf)
  | row (e : TypeId) (t : Ty) (xs : List t.den)
  | lrow (e : TypeId) (t : Ty) (n : Nat) (cells : List Leaf)
  | deep (e : TypeId) (t : Ty) (xs : List t.den)
  | zip (e : TypeId) (t : Ty) (l : List t.den) (cells : List Leaf) (r : List t.den)

structure St where
  env : List AV
  store : List (Nat × Ent)

def AV.undef : AV := .tup []
@[reducible] def AV.lf (l : Leaf) : AV := .one (.lf l)
@[reducible] def AV.v (x : Value) : AV := .one (.lf (.v x))
@[reducible] def AV.int (k : IntKind) (n : Int) : AV := .v (.int k n)
@[reducible] def AV.bool (b : Bool) : AV := .v (.bool b)

/-- A type, as the code needs it. -/
structure TI where
  desc : TypeDesc
  size : Nat
  bytes : Nat
  zero : List Value
  ty : Option Ty
  eqv : Bool

def TI.isAgg (i : TI) : Bool := match i.desc with | .struct _ | .array _ _ => true | _ => false

/-- The cells of a datum. -/
def leaves (lt : Bool) : (t : Ty) → t.den → List Leaf
  | .int k, n => [.v (.int k n)]
  | .bool, b => [.v (.bool b)]
  | .str, s => [.v (.string s)]
  | .rs e t, xs => [.rd lt e t xs]
  | .pair a b, p => leaves lt a p.1 ++ leaves lt b p.2

variable {R : Type}

def cast {t t' : Ty} (xs : List t.den) (K : List t'.den → Option R) : Option R :=
  if h : t = t' then K (h ▸ xs) else none

def castD {t t' : Ty} (x : t.den) (K : t'.den → Option R) : Option R :=
  if h : t = t' then K (h ▸ x) else none

def castT {ts ts' : List Ty} (x : tdens ts) (K : tdens ts' → Option R) : Option R :=
  if h : ts = ts' then K (h ▸ x) else none

def lookup (store : List (Nat × Ent)) (id : Nat) : Option Ent := (store.find? fun p => p.1 == id).map (·.2)

def killL (id : Nat) : Leaf → Leaf
  | .own j => if j = id then .dead else .own j
  | .elp j sz i off => if j = id then .dead else .elp j sz i off
  | l => l
def mapV (f : Leaf → Leaf) : V1 → V1
  | .lf l => .lf (f l)
  | .agg ls => .agg (ls.map f)
def mapA (f : Leaf → Leaf) : AV → AV
  | .one v => .one (mapV f v)
  | .tup vs => .tup (vs.map (mapV f))
  | .fn g caps => .fn g (caps.map f)
  | .dead => .dead
def mapE (f : Leaf → Leaf) : Ent → Ent
  | .box t cells => .box t (cells.map f)
  | .lrow e t n cells => .lrow e t n (cells.map f)
  | .zip e t l cells r => .zip e t l (cells.map f) r
  | e => e
/-- All leaves turned. -/
def St.map (st : St) (f : Leaf → Leaf) : St := { env := st.env.map (mapA f), store := st.store.map fun p => (p.1, mapE f p.2) }
/-- All that holds the row's handle is forgotten. -/
def St.kill (st : St) (id : Nat) : St := st.map (killL id)
def froz (id : Nat) (e : TypeId) (t : Ty) (xs : List t.den) : Leaf → Leaf
  | .own j => if j = id then .rd true e t xs else .own j
  | .elp j sz i off => if j = id then .dead else .elp j sz i off
  | l => l
/-- A row is written no more: it is read from now on. -/
def St.freeze (st : St) (id : Nat) (e : TypeId) (t : Ty) (xs : List t.den) : St :=
  let st' := st.map (froz id e t xs)
  { st' with store := st'.store.filter fun p => p.1 != id }

def flat : Ty → Bool
  | .rs _ _ => false
  | .pair a b => flat a && flat b
  | _ => true

/-- How long what is read must stay: see: now. hold: for this call. keep: for good. -/
inductive Md where
  | see
  | hold
  | keep
  deriving DecidableEq
def Md.ofB (need : Bool) : Md := if need then .keep else .see
def Md.ofT (want : Bool) : Md := if want then .keep else .hold

/-- What a leaf reads as, as a slice with elements of the type t. -/
def asRd (need : Md) (e : TypeId) (t : Ty) (l : Leaf) (st : St) (K : List t.den → St → Option R) : Option R :=
  match l with
  | .rd lt e' _ xs => if e = e' ∧ (need = .keep → lt = true) then cast xs fun ys => K ys st else none
  | .v (.slice none 0 0) => K [] st
  | .own id =>
    match lookup st.store id with
    | some (.row e' t' xs) => if e = e' then cast xs fun ys => K ys (if need = .see then st else st.freeze id e' t' xs) else none
    | some (.deep e' t' xs) => if e = e' then cast xs fun ys => K ys (if need = .see then st else st.freeze id e' t' xs) else none
    | _ => none
  | _ => none

/-- The elements of a slice, to be copied. -/
def asElems (e : TypeId) (t : Ty) (l : Leaf) (st : St) (K : List t.den → Option R) : Option R :=
  match l with
  | .rd lt e' _ xs => if e = e' ∧ (lt = true ∨ flat t = true) then cast xs K else none
  | .v (.slice none 0 0) => K []
  | .own id =>
    match lookup st.store id with
    | some (.row e' _ xs) => if e = e' then cast xs K else none
    | _ => none
  | _ => none

/-- What leaves read as. -/
def readTy (need : Md) : (t : Ty) → List Leaf → St → (t.den → St → Option R) → Option R
  | .int k, ls, st, K => match ls with | [.v (.int k' n)] => if k = k' then K n st else none | _ => none
  | .bool, ls, st, K => match ls with | [.v (.bool b)] => K b st | _ => none
  | .str, ls, st, K => match ls with | [.v (.string s)] => K s st | _ => none
  | .rs e t, ls, st, K => match ls with | [l] => asRd need e t l st K | _ => none
  | .pair a b, ls, st, K => readTy need a (ls.take a.sz) st fun x st => readTy need b (ls.drop a.sz) st fun y st => K (x, y) st

/-- What the leaves of so many elements read as. -/
def readTys (need : Md) (t : Ty) : Nat → List Leaf → St → (List t.den → St → Option R) → Option R
  | 0, _, st, K => K [] st
  | n + 1, ls, st, K => readTy need t (ls.take t.sz) st fun x st => readTys need t n (ls.drop t.sz) st fun xs st => K (x :: xs) st

def fresh (store : List (Nat × Ent)) : Nat := (store.map (·.1)).foldr max 0 + 1

def St.put (st : St) (dst : Option Nat) (v : AV) : St :=
  match dst with
  | some d => { st with env := st.env.set d v }
  | none => st
def St.setEnt (st : St) (id : Nat) (e : Ent) : St := { st with store := st.store.map fun p => if p.1 = id then (id, e) else p }
def St.add (st : St) (e : Ent) : St := { st with store := st.store ++ [(fresh st.store, e)] }

/-- The numbers that leaves name. -/
def idsL : Leaf → List Nat
  | .own j => [j]
  | .ptr j _ => [j]
  | .elp j _ _ _ => [j]
  | _ => []
def idsV : V1 → List Nat
  | .lf l => idsL l
  | .agg ls => ls.flatMap idsL
def idsA : AV → List Nat
  | .one v => idsV v
  | .tup vs => vs.flatMap idsV
  | .fn _ caps => caps.flatMap idsL
  | .dead => []
def idsE : Ent → List Nat
  | .box _ cells => cells.flatMap idsL
  | .row _ _ _ => []
  | .lrow _ _ _ cells => cells.flatMap idsL
  | .deep _ _ _ => []
  | .zip _ _ _ cells _ => cells.flatMap idsL
def reach (store : List (Nat × Ent)) : Nat → List Nat → List Nat
  | 0, ids => ids
  | n + 1, ids => reach store n (ids ++ (store.filter fun p => ids.contains p.1).flatMap fun p => idsE p.2)
/-- What no variable leads to is forgotten. -/
def keepVars (vars : List Nat) : Nat → List AV → List AV
  | _, [] => []
  | i, v :: r => (if vars.contains i then v else .dead) :: keepVars vars (i + 1) r
def dropL (ids : List Nat) (l : Leaf) : Leaf := if (idsL l).all ids.contains then l else .dead
def St.norm (vars : List Nat) (st : St) : St :=
  let st1 : St := { st with env := keepVars vars 0 st.env }
  let ids := reach st.store 3 (st1.env.flatMap idsA)
  ({ st1 with store := st.store.filter fun p => ids.contains p.1 } : St).map (dropL ((st.store.filter fun p => ids.contains p.1).map (·.1)))

def St.take (st : St) (id : Nat) : St :=
  ({ st with store := st.store.filter fun p => p.1 != id } : St).map (dropL ((st.store.filter fun p => p.1 != id).map (·.1)))

/-- A row of the call's own, whole. -/
def mkRow (e : TypeId) (t : Ty) (xs : List t.den) : Ent := if flat t = true then .row e t xs else .deep e t xs
/-- What leaves hold; all their rows are taken out. -/
def takeO : (t : Ty) → List Leaf → St → (t.den → St → Option R) → Option R
  | .int k, ls, st, K => match ls with | [.v (.int k' n)] => if k = k' then K n st else none | _ => none
  | .bool, ls, st, K => match ls with | [.v (.bool b)] => K b st | _ => none
  | .str, ls, st, K => match ls with | [.v (.string s)] => K s st | _ => none
  | .rs e t, ls, st, K =>
    match ls with
    | [.own id] =>
      match lookup st.store id with
      | some (.row e' _ xs) => if flat t = true ∧ e = e' then cast xs fun ys => K ys (st.take id) else none
      | some (.deep e' _ xs) => if e = e' then cast xs fun ys => K ys (st.take id) else none
      | _ => none
    | [.v (.slice none 0 0)] => K [] st
    | _ => none
  | .pair a b, ls, st, K => takeO a (ls.take a.sz) st fun x st => takeO b (ls.drop a.sz) st fun y st => K (x, y) st
def takeOs (t : Ty) : Nat → List Leaf → St → (List t.den → St → Option R) → Option R
  | 0, _, st, K => K [] st
  | n + 1, ls, st, K => takeO t (ls.take t.sz) st fun x st => takeOs t n (ls.drop t.sz) st fun xs st => K (x :: xs) st
/-- Leaves that hold this, their rows laid anew. -/
def putO : (t : Ty) → t.den → St → List Leaf × St
  | .int k, n, st => ([.v (.int k n)], st)
  | .bool, b, st => ([.v (.bool b)], st)
  | .str, s, st => ([.v (.string s)], st)
  | .rs e t, xs, st => ([.own (fresh st.store)], st.add (mkRow e t xs))
  | .pair a b, p, st => ((putO a p.1 st).1 ++ (putO b p.2 (putO a p.1 st).2).1, (putO b p.2 (putO a p.1 st).2).2)
/-- What has no rows of its own. -/
def zeroO : (t : Ty) → List Value → Option t.den
  | .int k, cs => match cs with | [.int k' n] => if k = k' then some n else none | _ => none
  | .bool, cs => match cs with | [.bool b] => some b | _ => none
  | .str, cs => match cs with | [.string s] => some s | _ => none
  | .rs _ _, cs => match cs with | [.slice none 0 0] => some [] | _ => none
  | .pair a b, cs => match zeroO a (cs.take a.sz), zeroO b (cs.drop a.sz) with | some x, some y => some (x, y) | _, _ => none

/-- A row of which each cell is known, as a list. -/
def solid1 (dp : Bool) (id : Nat) (st : St) (K : St → Option R) : Option R :=
  match lookup st.store id with
  | some (.lrow e t n cells) =>
    if dp = true then
      takeOs t n cells st fun xs st' =>
        match lookup st'.store id with
        | some (.lrow _ _ _ _) => K (st'.setEnt id (.deep e t xs))
        | _ => none
    else
      readTys .keep t n cells st fun xs st' =>
        match lookup st'.store id with
        | some (.lrow _ _ _ _) => K (st'.setEnt id (.row e t xs))
        | _ => none
  | some (.zip e t l cells r) =>
    if dp = true then
      takeO t cells st fun y st' =>
        match lookup st'.store id with
        | some (.zip _ _ _ _ _) => K (st'.setEnt id (.deep e t (l ++ y :: r)))
        | _ => none
    else K st
  | _ => K st
def solids (dp : Bool) : List Nat → St → (St → Option R) → Option R
  | [], st, K => K st
  | id :: ids, st, K => solid1 dp id st fun st' => solids dp ids st' K
def isL : Ent → Bool
  | .lrow _ _ _ _ => true
  | .zip _ _ _ _ _ => true
  | _ => false

/-- So with all that these lead to. -/
def St.solid (dp : Bool) (vs : List AV) (st : St) (K : St → Option R) : Option R :=
  solids dp ((st.store.filter fun p => isL p.2 && (reach st.store 3 (vs.flatMap idsA)).contains p.1).map (·.1)) st K
/-- The rows that are closed so. -/
def solidIds (vs : List AV) (st : St) : List Nat := (st.store.filter fun p => isL p.2 && (reach st.store 3 (vs.flatMap idsA)).contains p.1).map (·.1)
def solidFree (M : List Nat) (vs : List AV) (st : St) : Bool := (solidIds vs st).all fun i => !M.contains i
def ownOut (M : List Nat) (v : AV) : Bool := match v with | .one (.lf (.own id)) => !M.contains id | _ => true

/-! ### States in their own form -/
/-- Functions as values, and places that are read. -/
inductive FK where
  | clo (want : Bool) (f : FuncId) (agg : Bool) (t : Ty)
  | cap (want : Bool) (f : FuncId) (ts : List Ty)
  | pt (want : Bool) (t : Ty)
@[reducible] def FK.den : FK → Type
  | .clo _ _ _ t => t.den
  | .cap _ _ ts => tdens ts
  | .pt _ t => t.den
def FK.want : FK → Bool
  | .clo w _ _ _ => w
  | .cap w _ _ => w
  | .pt w _ => w
@[reducible] def FK.keep : FK → FK
  | .clo _ f agg t => .clo true f agg t
  | .cap _ f ts => .cap true f ts
  | .pt _ t => .pt true t
def FK.leaf : (k : FK) → k.den → Leaf
  | .clo w f agg t, x => .clo w f agg t x
  | .cap w f ts, x => .cap w f ts x
  | .pt w t, x => .rdp w t x 0
def FK.get (kp : Bool) : (k : FK) → Leaf → (k.den → Option R) → Option R
  | .clo _ f agg _, l, K => match l with | .clo lt f' agg' _ x => if (f' = f ∧ agg' = agg) ∧ (kp = true → lt = true) then castD x K else none | _ => none
  | .cap _ f _, l, K => match l with | .cap lt f' _ x => if f' = f ∧ (kp = true → lt = true) then castT x K else none | _ => none
  | .pt _ _, l, K => match l with | .rdp lt _ x 0 => if kp = true → lt = true then castD x K else none | _ => none
inductive CK where
  | v (want : Bool) (t : Ty)
  | r (e : TypeId) (t : Ty)
  | o (t : Ty)
  | f (k : FK)
  | g (f : FuncId)
inductive LK where
  | c (agg : Bool) (k : CK)
  | b (t : TypeId) (ks : List CK)
  | t (agg : Bool) (ty : Ty)
@[reducible] def CK.den : CK → Type
  | .v _ t => t.den
  | .r _ t => List t.den
  | .o t => t.den
  | .f k => k.den
  | .g _ => Unit
def CK.sz : CK → Nat
  | .v _ t => t.sz
  | .r _ _ => 1
  | .o t => t.sz
  | .f _ => 1
  | .g _ => 1
@[reducible] def cdens : List CK → Type
  | [] => Unit
  | k :: ks => k.den × cdens ks
@[reducible] def LK.den : LK → Type
  | .c _ k => k.den
  | .b _ ks => cdens ks
  | .t _ ty => ty.den
@[reducible] def sdens : List (Nat × LK) → Type
  | [] => Unit
  | p :: ps => p.2.den × sdens ps

def getCKs : (ks : List CK) → List Leaf → St → (cdens ks → St → Option R) → Option R
  | [], ls, st, K => match ls with | [] => K () st | _ => none
  | .v want t :: ks, ls, st, K => readTy (Md.ofT want) t (ls.take t.sz) st fun x st => getCKs ks (ls.drop t.sz) st fun xs st => K (x, xs) st
  | .r e t :: ks, ls, st, K =>
    match ls with
    | .own id :: rest =>
      match lookup st.store id with
      | some (.row e' _ xs) => if e = e' then cast xs fun ys : List t.den => getCKs ks rest (st.take id) fun xs st => K (ys, xs) st else none
      | _ => none
    | .v (.slice none 0 0) :: rest => getCKs ks rest st fun xs st => K ([], xs) st
    | _ => none
  | .o t :: ks, ls, st, K => takeO t (ls.take t.sz) st fun x st => getCKs ks (ls.drop t.sz) st fun xs st => K (x, xs) st
  | .f k :: ks, ls, st, K =>
    match ls with
    | l :: rest => k.get k.want l fun y => getCKs ks rest st fun xs st => K (y, xs) st
    | [] => none
  | .g f :: ks, ls, st, K =>
    match ls with
    | .fnc f' :: rest => if f' = f then getCKs ks rest st fun xs st => K ((), xs) st else none
    | _ => none

def lvOf (agg : Bool) (n : Nat) (v : V1) : Option (List Leaf) :=
  match v with
  | .agg ls => if agg = true then some ls else none
  | .lf l => if agg = false ∧ n = 1 then some [l] else none
def ofLv (agg : Bool) (ls : List Leaf) : V1 := if agg then .agg ls else match ls with | [l] => .lf l | _ => .lf .dead

/-- What the variables of a signature hold; rows and blocks that are the call's own are taken out. -/
def getVals0 : (sig : List (Nat × LK)) → St → (sdens sig → Option R) → Option R
  | [], _, K => K ()
  | (s, .c agg k) :: sig, st, K =>
    match st.env.getD s .dead with
    | .one v =>
      match lvOf agg k.sz v with
      | some ls => getCKs [k] ls st fun x st => getVals0 sig st fun xs => K (x.1, xs)
      | none => none
    | _ => none
  | (s, .b t ks) :: sig, st, K =>
    match st.env.getD s .dead with
    | .one (.lf (.ptr id 0)) =>
      match lookup st.store id with
      | some (.box t' ls) => if t = t' then getCKs ks ls (st.take id) fun x st => getVals0 sig st fun xs => K (x, xs) else none
      | _ => none
    | _ => none
  | (_, .t _ _) :: _, _, _ => none

def CK.isO : CK → Bool
  | .o _ => true
  | _ => false
def LK.isO : LK → Bool
  | .c _ k => k.isO
  | .b _ ks => ks.any CK.isO
  | .t _ _ => true
def getVals (sig : List (Nat × LK)) (st : St) (K : sdens sig → Option R) : Option R := st.solid (sig.any fun p => p.2.isO) (sig.map fun p => st.env.getD p.1 .dead) fun st => getVals0 sig st K

def putCKs : (ks : List CK) → cdens ks → St → List Leaf × St
  | [], _, st => ([], st)
  | .v want t :: ks, x, st => (leaves want t x.1 ++ (putCKs ks x.2 st).1, (putCKs ks x.2 st).2)
  | .r e t :: ks, x, st => (.own (fresh st.store) :: (putCKs ks x.2 (st.add (.row e t x.1))).1, (putCKs ks x.2 (st.add (.row e t x.1))).2)
  | .f k :: ks, x, st => (k.leaf x.1 :: (putCKs ks x.2 st).1, (putCKs ks x.2 st).2)
  | .g f :: ks, x, st => (.fnc f :: (putCKs ks x.2 st).1, (putCKs ks x.2 st).2)
  | .o t :: ks, x, st => ((putO t x.1 st).1 ++ (putCKs ks x.2 (putO t x.1 st).2).1, (putCKs ks x.2 (putO t x.1 st).2).2)

/-- The state of which a signature's variables hold these. -/
def putVals : (sig : List (Nat × LK)) → sdens sig → St → St
  | [], _, st => st
  | (s, .c agg k) :: sig, x, st => putVals sig x.2 ((putCKs [k] (x.1, ()) st).2.put (some s) (.one (ofLv agg (putCKs [k] (x.1, ()) st).1)))
  | (s, .b t ks) :: sig, x, st => putVals sig x.2 (((putCKs ks x.1 st).2.add (.box t (putCKs ks x.1 st).1)).put (some s) (.lf (.ptr (fresh (putCKs ks x.1 st).2.store) 0)))
  | (s, .t agg ty) :: sig, x, st => putVals sig x.2 ((putCKs [.o ty] (x.1, ()) st).2.put (some s) (.one (ofLv agg (putCKs [.o ty] (x.1, ()) st).1)))

def St.blank (n : Nat) : St := { env := List.replicate n .dead, store := [] }

inductive Ex where
  | normal
  | exit (id : Nat)
  | ret
  deriving DecidableEq

/-- What a loop comes to: at which of its ways out, with what. -/
@[reducible] def odens : List (Ex × List (Nat × LK)) → Type
  | [] => Empty
  | o :: os => sdens o.2 ⊕ odens os

def getOut : (os : List (Ex × List (Nat × LK))) → Ex → St → (odens os → Option R) → Option R
  | [], _, _, _ => none
  | (e', sig) :: os, e, st, K => if e' = e then getVals sig st fun v => K (.inl v) else getOut os e st fun v => K (.inr v)
def putOut (n : Nat) : (os : List (Ex × List (Nat × LK))) → odens os → (Ex → St → Option R) → Option R
  | [], o, _ => nomatch o
  | (e', sig) :: os, o, K => match o with | .inl v => K e' (putVals sig v (St.blank n)) | .inr v => putOut n os v K

/-- How a loop is known. -/
structure Lp where
  sig : List (Nat × LK)
  outs : List (Ex × List (Nat × LK))
  run : Nat → sdens sig → Option (odens outs)

def constV : Value → AV
  | .agg cs => if cs.toList.all Value.oneCell' then .one (.agg (cs.toList.map .v)) else .dead
  | .tuple _ => .dead
  | .func (.func f) first captured => if first.size = 0 ∧ captured.size = 0 then .fn f [] else .dead
  | .func _ _ _ => .dead
  | x => .v x

def St.ev (st : St) : Operand → AV
  | .tmp t => st.env.getD t .dead
  | .const x => constV x
  | .global _ => .dead
  | .func f => .fn f []

def AV.leavesOf : AV → Option (List Leaf)
  | .one (.lf l) => some [l]
  | .one (.agg ls) => some ls
  | _ => none

/-- How a callee is known: what it does with what it is handed. -/
structure Con where
  run : {R : Type} → Option (List Nat) → List V1 → St → (AV → St → Option R) → Option R
  mu : List Nat

/-- A join: what comes behind it, as a plain function. -/
structure Ct where
  sig : List (Nat × LK)
  outs : List (Ex × List (Nat × LK))
  run : sdens sig → Option (odens outs)

structure Tb where
  ti : TypeId → Option TI
  con : FuncId → Option Con
  fuel : Nat
  vars : List Nat
  n : Nat
  lp : Nat → Option Lp
  ct : Nat → Option Ct
  fixed : List Nat
  deep : Bool

def ofLeaves (agg : Bool) (ls : List Leaf) : AV :=
  if agg then .one (.agg ls) else match ls with | [l] => .lf l | _ => .dead

/-- Arithmetic and tests between two values. -/
def binV (op : BinOp) : Value → Value → (Value → Option R) → Option R
  | .int k a, .int k' b, K =>
    match op with
    | .shl => if b < 0 then none else K (.int k (k.wrap (a * 2 ^ min b.toNat k.bits)))
    | .shr => if b < 0 then none else K (.int k (a.fdiv (2 ^ min b.toNat k.bits)))
    | _ =>
      if k = k' then
        match op with
        | .add => K (.int k (k.wrap (a + b)))
        | .sub => K (.int k (k.wrap (a - b)))
        | .mul => K (.int k (k.wrap (a * b)))
        | .quo => if b = 0 then none else K (.int k (k.wrap (a.tdiv b)))
        | .rem => if b = 0 then none else K (.int k (a.tmod b))
        | .eql => K (.bool (a == b))
        | .neq => K (.bool (a != b))
        | .lss => K (.bool (decide (a < b)))
        | .leq => K (.bool (decide (a ≤ b)))
        | .gtr => K (.bool (decide (a > b)))
        | .geq => K (.bool (decide (a ≥ b)))
        | .and => K (.int k (k.wrap (BitVec.ofInt k.bits a &&& BitVec.ofInt k.bits b).toNat))
        | .or => K (.int k (k.wrap (BitVec.ofInt k.bits a ||| BitVec.ofInt k.bits b).toNat))
        | .xor => K (.int k (k.wrap (BitVec.ofInt k.bits a ^^^ BitVec.ofInt k.bits b).toNat))
        | .andNot => K (.int k (k.wrap (BitVec.ofInt k.bits a &&& ~~~(BitVec.ofInt k.bits b)).toNat))
        | _ => none
      else none
  | .string a, .string b, K =>
    match op with
    | .add => if a.size + b.size ≤ 9223372036854775807 then K (.string (a ++ b)) else none
    | .eql => K (.bool (a.toList == b.toList))
    | .neq => K (.bool !(a.toList == b.toList))
    | _ => none
  | _, _, _ => none

def unV (op : UnOp) : Value → (Value → Option R) → Option R
  | .bool b, K => match op with | .not => K (.bool !b) | _ => none
  | .int k n, K => match op with | .neg => K (.int k (k.wrap (0 - n))) | _ => none
  | _, _ => none

def setAt (ls : List Leaf) (off : Nat) (new : List Leaf) : List Leaf := ls.take off ++ new ++ ls.drop (off + new.length)

def binV2 (tb : Tb) (op : BinOp) (t : TypeId) (x y : Value) (K : Value → Option R) : Option R :=
  match x, y with
  | .bool a, .bool b =>
    match (tb.ti t).map TI.desc with
    | some TypeDesc.bool =>
      match op with
      | .eql => K (.bool (a == b))
      | .neq => K (.bool !(a == b))
      | _ => none
    | _ => none
  | x, y => binV op x y K

/-- Whether two structs' cells are the same, field by field. -/
def eqF1 (d : TypeDesc) (x y : Option Leaf) : Option Bool :=
  match d with
  | .int _ => match x, y with | some (.v (.int k a)), some (.v (.int k' b)) => if k = k' then some (a == b) else none | _, _ => none
  | .bool => match x, y with | some (.v (.bool a)), some (.v (.bool b)) => some (a == b) | _, _ => none
  | .string => match x, y with | some (.v (.string a)), some (.v (.string b)) => some (a.toList == b.toList) | _, _ => none
  | _ => none
def eqFs (tb : Tb) (xs ys : List Leaf) : List Field → (Bool → Option R) → Option R
  | [], K => K true
  | f :: fs, K =>
    match tb.ti f.type with
    | some i =>
      if (f.name == "_") = false then
        match eqF1 i.desc xs[f.offset]? ys[f.offset]? with
        | some r => (match fs with | [] => K r | _ => eqFs tb xs ys fs fun s => K (r && s))
        | none => none
      else none
    | none => none
def eqAgg (tb : Tb) (op : BinOp) (t : TypeId) (xs ys : List Leaf) (K : Value → Option R) : Option R :=
  match tb.ti t with
  | some i =>
    match i.desc with
    | .struct fs =>
      if i.eqv = true then
        match op with
        | .eql => eqFs tb xs ys fs.toList fun b => K (.bool b)
        | .neq => eqFs tb xs ys fs.toList fun b => K (.bool !b)
        | _ => none
      else none
    | _ => none
  | none => none

/-- Struct parts laid over what is there. -/
def fillL (flds : Nat → Option (Nat × Nat)) (st : St) : List (Nat × Operand) → List Leaf → (List Leaf → Option R) → Option R
  | [], ls, K => K ls
  | (i, x) :: rest, ls, K =>
    match flds i, (st.ev x).leavesOf with
    | some (off, size), some new => if new.length = size ∧ off + size ≤ ls.length then fillL flds st rest (setAt ls off new) K else none
    | _, _ => none

def intOf (v : AV) (K : IntKind → Int → Option R) : Option R := match v with | .one (.lf (.v (.int k n))) => K k n | _ => none
def boolOf (v : AV) (K : Bool → Option R) : Option R := match v with | .one (.lf (.v (.bool b))) => K b | _ => none

/-- A slice's data: its element's size, its length, and how an element's place is told. -/
def sliceOf (st : St) (v : AV) (K : Nat → Nat → (Nat → Nat → Leaf) → Option R) : Option R :=
  match v with
  | .one (.lf (.rd lt _ t xs)) => K t.sz xs.length fun i off => .rdp lt t (xs.getD i t.dflt) off
  | .one (.lf (.own id)) =>
    match lookup st.store id with
    | some (.row _ t xs) => K t.sz xs.length fun i off => .elp id t.sz i off
    | some (.lrow _ t n _) => K t.sz n fun i off => .elp id t.sz i off
    | some (.deep _ t xs) => K t.sz xs.length fun i off => .elp id t.sz i off
    | some (.zip _ t l _ r) => K t.sz (l.length + 1 + r.length) fun i off => .elp id t.sz i off
    | _ => none
  | _ => none

def lenOf (st : St) (v : AV) (K : Int → Option R) : Option R :=
  match v with
  | .one (.lf (.v (.slice none 0 0))) => K 0
  | .one (.lf (.v (.string s))) => K s.size
  | _ => sliceOf st v fun _ n _ => K n

def allV1 : List AV → Option (List V1)
  | [] => some []
  | .one v :: r => (allV1 r).map (v :: ·)
  | .fn f [] :: r => (allV1 r).map (.lf (.fnc f) :: ·)
  | _ :: _ => none

/-- Elements are put behind a row of the call's own (or a nil slice). -/
def appendTo (ti : TI) (e : TypeId) (st : St) (s : AV) (t : Ty) (ys : List t.den) (K : AV → St → Option R) : Option R :=
  match s with
  | .one (.lf (.v (.slice none 0 0))) =>
    if ys.length * ti.bytes ≤ 140737488355328 then
      let st' := st.add (.row e t ys)
      K (.lf (.own (fresh st.store))) st'
    else none
  | .one (.lf (.own id)) =>
    match lookup st.store id with
    | some (.row e' t' xs) =>
      if e = e' then
        cast xs fun xs' : List t.den =>
          if (xs'.length + ys.length) * ti.bytes ≤ 140737488355328 then
            K (.lf (.own id)) ((st.kill id).setEnt id (.row e t (xs' ++ ys)))
          else none
      else none
    | _ => none
  | _ => none

/-- Whether what is appended is taken over. -/
def deepBase (dp : Bool) (t : Ty) (st : St) (s : AV) : Bool :=
  match s with
  | .one (.lf (.v (.slice none 0 0))) => dp && !flat t
  | .one (.lf (.own id)) => dp && (match lookup st.store id with | some (.deep _ _ _) => true | _ => false)
  | _ => false
/-- Elements are put behind a deep row, their rows taken over. -/
def appendD (ti : TI) (e : TypeId) (st : St) (s : Operand) (t : Ty) (l : Leaf) (K : AV → St → Option R) : Option R :=
  takeO (.rs e t) [l] st fun ys st' =>
    match st'.ev s with
    | .one (.lf (.v (.slice none 0 0))) =>
      if ys.length * ti.bytes ≤ 140737488355328 then K (.lf (.own (fresh st'.store))) (st'.add (.deep e t ys)) else none
    | .one (.lf (.own id)) =>
      match lookup st'.store id with
      | some (.deep e' t' xs) =>
        if e = e' then
          cast xs fun xs' : List t.den =>
            if (xs'.length + ys.length) * ti.bytes ≤ 140737488355328 then K (.lf (.own id)) ((st'.kill id).setEnt id (.deep e t (xs' ++ ys))) else none
        else none
      | _ => none
    | _ => none

/-- The greater, or the less, of two numbers. -/
def minmax (mx : Bool) (x y : AV) (K : AV → Option R) : Option R :=
  match x, y with
  | .one (.lf (.v (.int k a))), .one (.lf (.v (.int _ b))) => match mx with | true => K (.int k (if b > a then b else a)) | false => K (.int k (if b < a then b else a))
  | _, _ => none

def evCallB (tb : Tb) (b : Builtin) (args : List Operand) (argTypes : List TypeId) (st : St) (K : AV → St → Option R) : Option R :=
  match b, args, argTypes with
  | .len, [x], [t] =>
    match (tb.ti t).map TI.desc with
    | some (.slice _) => match st.ev x with | .one (.lf (.v (.string _))) => none | v => lenOf st v fun n => K (.int .i64 n) st
    | some .string => match st.ev x with | .one (.lf (.v (.string s))) => K (.int .i64 s.size) st | _ => none
    | _ => none
  | .append, [s, x], [t, t'] =>
    if t' = t then
      match tb.ti t with
      | some i =>
        match i.desc with
        | .slice e =>
          match tb.ti e with
          | some ie =>
            match ie.ty with
            | some ty =>
              if ie.size = ty.sz ∧ 0 < ie.bytes ∧ 0 < ty.sz then
                match (st.ev x) with
                | .one (.lf l) => if deepBase tb.deep ty st (st.ev s) = true then appendD ie e st s ty l K else asElems e ty l st fun ys => appendTo ie e st (st.ev s) ty ys K
                | _ => none
              else none
            | none => none
          | none => none
        | _ => none
      | none => none
    else none
  | .max, [x, y], _ => minmax true (st.ev x) (st.ev y) fun v => K v st
  | .min, [x, y], _ => minmax false (st.ev x) (st.ev y) fun v => K v st
  | _, _, _ => none


def fieldsOf (tb : Tb) (t : TypeId) : Option (Array Field) :=
  match tb.ti t with
  | some i => match i.desc with | .struct fs => some fs | _ => none
  | none => none

/-- Where a struct's field begins, and how many cells it has. -/
def fieldAt (tb : Tb) (t : TypeId) (i : Nat) : Option (Nat × Nat) :=
  match fieldsOf tb t with
  | some fs =>
    match fs[i]? with
    | some f => match tb.ti f.type with | some j => some (f.offset, j.size) | none => none
    | none => none
  | none => none

/-- A struct value's field. -/
def evField (tb : Tb) (s : TypeId) (f : Nat) (x : AV) (K : AV → Option R) : Option R :=
  match fieldsOf tb s with
  | some fs =>
    match fs[f]? with
    | some fd =>
      match tb.ti fd.type with
      | some i =>
        match x with
        | .one (.agg ls) => if fd.offset + i.size ≤ ls.length ∧ (i.isAgg = true ∨ i.size = 1) then K (ofLeaves i.isAgg ((ls.drop fd.offset).take i.size)) else none
        | _ => none
      | none => none
    | none => none
  | none => none

/-- One element of a deep row is opened. -/
def openZ (id j : Nat) (st : St) (K : St → Option R) : Option R :=
  match lookup st.store id with
  | some (.deep e t xs) =>
    let st1 := st.setEnt id (.lrow e t xs.length (List.replicate (xs.length * t.sz) .dead))
    if j < xs.length then K ((putO t (xs.getD j t.dflt) st1).2.setEnt id (.zip e t (xs.take j) (putO t (xs.getD j t.dflt) st1).1 (xs.drop (j + 1)))) else none
  | some (.zip _ _ l _ _) => if l.length = j then K st else none
  | _ => none
def isDeep (st : St) (id : Nat) : Bool := match lookup st.store id with | some (.deep _ _ _) => true | some (.zip _ _ _ _ _) => true | _ => false
/-- What an element that is open holds. -/
def evLoadZ (tb : Tb) (t : TypeId) (id sz j off : Nat) (st : St) (K : AV → Option R) : Option R :=
  match tb.ti t, lookup st.store id with
  | some i, some (.zip _ ty l cells _) =>
    if (sz = ty.sz ∧ off + i.size ≤ sz) ∧ (i.isAgg = true ∨ i.size = 1) then if l.length = j then K (ofLeaves i.isAgg ((cells.drop off).take i.size)) else none else none
  | _, _ => none

def evLoad (tb : Tb) (t : TypeId) (p : AV) (st : St) (K : AV → Option R) : Option R :=
  match tb.ti t with
  | none => none
  | some i =>
    let give (ls : List Leaf) (off : Nat) : Option R := if off + i.size ≤ ls.length ∧ (i.isAgg = true ∨ i.size = 1) then K (ofLeaves i.isAgg ((ls.drop off).take i.size)) else none
    match p with
    | .one (.lf (.ptr id off)) => match lookup st.store id with | some (.box _ cells) => give cells off | _ => none
    | .one (.lf (.elp id sz j off)) =>
      match lookup st.store id with
      | some (.row _ ty xs) => if sz = ty.sz then if j < xs.length then give (leaves true ty (xs.getD j ty.dflt)) off else none else none
      | some (.lrow _ ty n cells) => if sz = ty.sz ∧ j < n ∧ off + i.size ≤ sz then give cells (j * sz + off) else none
      | some (.zip _ ty l cells _) => if (sz = ty.sz ∧ l.length = j) ∧ off + i.size ≤ sz then give cells off else none
      | _ => none
    | .one (.lf (.rdp lt ty x off)) => give (leaves lt ty x) off
    | _ => none

def evStore (tb : Tb) (t : TypeId) (p x : AV) (st : St) (K : St → Option R) : Option R :=
  match tb.ti t, x.leavesOf with
  | some i, some new =>
    if new.length = i.size then
      match p with
      | .one (.lf (.ptr id off)) =>
        match lookup st.store id with
        | some (.box bt cells) => if off + new.length ≤ cells.length then K (st.setEnt id (.box bt (setAt cells off new))) else none
        | _ => none
      | .one (.lf (.elp id sz j off)) =>
        match lookup st.store id with
        | some (.row e ty xs) =>
          if sz = ty.sz ∧ off + new.length ≤ ty.sz then
            if j < xs.length then
              readTy .keep ty (setAt (leaves true ty (xs.getD j ty.dflt)) off new) st fun y st' =>
                match lookup st'.store id with
                | some (.row e' _ xs') => if e' = e then cast xs' fun zs : List ty.den => K (st'.setEnt id (.row e ty (zs.set j y))) else none
                | _ => none
            else none
          else none
        | some (.lrow e ty n cells) => if sz = ty.sz ∧ j < n ∧ off + new.length ≤ sz then K (st.setEnt id (.lrow e ty n (setAt cells (j * sz + off) new))) else none
        | _ =>
          openZ id j st fun st' =>
            match lookup st'.store id with
            | some (.zip e ty l cells r) => if sz = ty.sz ∧ off + new.length ≤ sz then if l.length = j then K (st'.setEnt id (.zip e ty l (setAt cells off new) r)) else none else none
            | _ => none
      | _ => none
    else none
  | _, _ => none

/-- Where a slice expression begins and ends. -/
def loOf (st : St) (x : Option Operand) (K : Nat → Option R) : Option R :=
  match x with
  | none => K 0
  | some x => intOf (st.ev x) fun _ n => if 0 ≤ n then K n.toNat else none
def hiOf (st : St) (x : Option Operand) (len : Nat) (K : Nat → Option R) : Option R :=
  match x with
  | none => K len
  | some x => intOf (st.ev x) fun _ n => if 0 ≤ n then if n ≤ len then K n.toNat else none else none
def boundsOf (st : St) (lo hi : Option Operand) (len : Nat) (K : Nat → Nat → Option R) : Option R :=
  hiOf st hi len fun h => loOf st lo fun l => if l ≤ h then K l h else none
def ltOf : Leaf → Bool
  | .rd lt _ _ _ => lt
  | _ => true
def evSlice (tb : Tb) (t : TypeId) (x : Operand) (lo hi : Option Operand) (st : St) (K : AV → St → Option R) : Option R :=
  match tb.ti t with
  | some i =>
    match i.desc with
    | .string => match st.ev x with | .one (.lf (.v (.string s))) => boundsOf st lo hi s.size fun l h => K (.v (.string (s.extract l h))) st | _ => none
    | .slice e =>
      match tb.ti e with
      | some ie =>
        match ie.ty with
        | some ty =>
          if ie.size = ty.sz then
            match st.ev x with
            | .one (.lf lf) => asRd (if ltOf lf then .keep else .hold) e ty lf st fun xs st' => boundsOf st lo hi xs.length fun l h => K (.lf (.rd (ltOf lf) e ty ((xs.take h).drop l))) st'
            | _ => none
          else none
        | none => none
      | none => none
    | _ => none
  | none => none

/-- A slice with no room: [:0:0]. -/
def evSlice3 (tb : Tb) (t : TypeId) (x h m : Operand) (st : St) (K : AV → St → Option R) : Option R :=
  match tb.ti t with
  | some i =>
    match i.desc with
    | .slice e =>
      match tb.ti e with
      | some ie =>
        match ie.ty with
        | some ty =>
          if ie.size = ty.sz then
            intOf (st.ev h) fun _ n => intOf (st.ev m) fun _ k =>
              if n = 0 ∧ k = 0 then
                match st.ev x with
                | .one (.lf (.v (.slice none 0 0))) => K (.lf (.own (fresh st.store))) (st.add (.row e ty []))
                | v => sliceOf st v fun _ _ _ => K (.lf (.own (fresh st.store))) (st.add (.row e ty []))
              else none
          else none
        | none => none
      | none => none
    | _ => none
  | none => none

/-- What leaves hold, as data. -/
def gather1 : Leaf → ((lt : Bool) → (t : Ty) → t.den → Option R) → Option R
  | .v (.int k n), K => K true (.int k) n
  | .v (.bool b), K => K true .bool b
  | .v (.string s), K => K true .str s
  | .rd lt e t xs, K => K lt (.rs e t) xs
  | _, _ => none
def gather : List Leaf → ((lt : Bool) → (t : Ty) → t.den → Option R) → Option R
  | [], _ => none
  | l :: ls, K =>
    match ls with
    | [] => gather1 l K
    | _ => gather1 l fun lt t x => gather ls fun lt' t' y => K (lt && lt') (.pair t t') (x, y)

def evOp (tb : Tb) (o : Oper) (st : St) (K : AV → St → Option R) : Option R :=
  match o.op with
  | .move x => K (st.ev x) st
  | .assign x => K (st.ev x) st
  | .pick c a b => boolOf (st.ev c) fun t => cond t (K (st.ev a) st) (K (st.ev b) st)
  | .alloc e => match tb.ti e with | some i => K (.lf (.ptr (fresh st.store) 0)) (st.add (.box e (i.zero.map .v))) | none => none
  | .box e x =>
    match tb.ti e, (st.ev x).leavesOf with
    | some _, some ls => K (.lf (.ptr (fresh st.store) 0)) (st.add (.box e ls))
    | _, _ => none
  | .build t parts =>
    match tb.ti t with
    | some i => match i.desc with | .struct fs => if (fs.toList.all fun f => (tb.ti f.type).isSome) = true then fillL (fieldAt tb t) st parts.toList (i.zero.map .v) fun ls => K (.one (.agg ls)) st else none | _ => none
    | none => none
  | .buildSlice t len parts =>
    match tb.ti t with
    | some i =>
      match i.desc with
      | .slice e =>
        match tb.ti e with
        | some ie =>
          match ie.ty with
          | some ty =>
            if ie.size = ty.sz ∧ 0 < ty.sz ∧ len * ie.size ≤ 16777216 then
              fillL (fun i => some (i * ie.size, ie.size)) st parts.toList ((List.range (len * ie.size)).map fun j => .v (ie.zero.getD (j % ie.size) (default : Value))) fun ls =>
                if flat ty = false ∧ (0 < len ∨ tb.deep = true) then K (.lf (.own (fresh st.store))) (st.add (.lrow e ty len ls))
                else readTys .keep ty len ls st fun xs st' => K (.lf (.own (fresh st'.store))) (st'.add (.row e ty xs))
            else none
          | none => none
        | none => none
      | _ => none
    | none => none
  | .load t p => evLoad tb t (st.ev p) st fun v => K v st
  | .store t p x => evStore tb t (st.ev p) (st.ev x) st fun st' => K .undef st'
  | .nilCheck x => match st.ev x with | .one (.lf (.ptr id off)) => K (.lf (.ptr id off)) st | .one (.lf (.rdp lt t y off)) => K (.lf (.rdp lt t y off)) st | _ => none
  | .binOp op t x y _ =>
    match st.ev x, st.ev y with
    | .one (.lf (.v a)), .one (.lf (.v b)) => binV2 tb op t a b fun c => K (.v c) st
    | .one (.agg xs), .one (.agg ys) => eqAgg tb op t xs ys fun c => K (.v c) st
    | _, _ => none
  | .unOp op _ x => match st.ev x with | .one (.lf (.v a)) => unV op a fun c => K (.v c) st | _ => none
  | .convert src dst x =>
    match tb.ti src, tb.ti dst with
    | some i, some j => match i.desc, j.desc with | .int _, .int k => intOf (st.ev x) fun _ n => K (.int k (k.wrap n)) st | _, _ => none
    | _, _ => none
  | .makeSlice t l c =>
    match tb.ti t with
    | some i =>
      match i.desc with
      | .slice e =>
        match tb.ti e with
        | some ie =>
          match ie.ty with
          | some ty =>
            if ie.size = ty.sz ∧ 0 < ty.sz ∧ 0 < ie.bytes then
              intOf (st.ev l) fun k n => intOf (st.ev c) fun k' n' =>
                if k = .i64 ∧ k' = .i64 then
                  if n = n' then
                    if 0 ≤ n then
                      if n.toNat * ie.bytes ≤ 140737488355328 then
                        if flat ty = false ∧ tb.deep = true then
                          match zeroO ty ie.zero with
                          | some z => K (.lf (.own (fresh st.store))) (st.add (.deep e ty (List.replicate n.toNat z)))
                          | none => none
                        else readTy .keep ty (ie.zero.map .v) st fun z st' => K (.lf (.own (fresh st'.store))) (st'.add (.row e ty (List.replicate n.toNat z)))
                      else none
                    else none
                  else none
                else none
            else none
          | none => none
        | none => none
      | _ => none
    | none => none
  | .fieldAddr s x f =>
    match fieldAt tb s f with
    | some (off, size) =>
      if 0 < size then
        match st.ev x with
        | .one (.lf (.ptr id o)) => K (.lf (.ptr id (o + off))) st
        | .one (.lf (.elp id sz j o)) => K (.lf (.elp id sz j (o + off))) st
        | .one (.lf (.rdp lt ty y o)) => K (.lf (.rdp lt ty y (o + off))) st
        | _ => none
      else none
    | none => none
  | .indexAddr t x i =>
    match tb.ti t with
    | some ti =>
      match ti.desc with
      | .slice e =>
        match tb.ti e with
        | some ie =>
          intOf (st.ev i) fun _ n =>
            sliceOf st (st.ev x) fun sz len place =>
              if ie.size = sz then
                if 0 ≤ n then if n < len then K (.lf (place n.toNat 0)) st else none else none
              else none
        | none => none
      | _ => none
    | none => none
  | .slice t x lo hi none => st.solid tb.deep [st.ev x] fun st => evSlice tb t x lo hi st K
  | .slice t x none (some h) (some m) => evSlice3 tb t x h m st K
  | .extract x i =>
    match st.ev x with
    | .tup vs => match vs[i]? with | some v => K (.one v) st | none => none
    | _ => none
  | .field s x f => evField tb s f (st.ev x) fun v => K v st
  | .call c =>
    match c.callee with
    | .builtin .append => st.solid tb.deep (c.args.toList.map st.ev) fun st => evCallB tb .append c.args.toList c.argTypes.toList st K
    | .builtin b => evCallB tb b c.args.toList c.argTypes.toList st K
    | .value (.func f) =>
      st.solid tb.deep (c.args.toList.map st.ev) fun st =>
        match tb.con f, allV1 (c.args.toList.map st.ev) with
        | some con, some vs => con.run none vs st K
        | _, _ => none
    | _ => none
  | _ => none

/-- A box is written no more. -/
def frozB (id : Nat) (lt : Bool) (t : Ty) (x : t.den) : Leaf → Leaf
  | .ptr j off => if j = id then .rdp lt t x off else .ptr j off
  | .own j => if j = id then .dead else .own j
  | .elp j sz i off => if j = id then .dead else .elp j sz i off
  | l => l
def St.freezeB (st : St) (id : Nat) (lt : Bool) (t : Ty) (x : t.den) : St :=
  let st' := st.map (frozB id lt t x)
  { st' with store := st'.store.filter fun p => p.1 != id }
/-- What a function catches: boxes that are written no more. -/
def capArgs (tb : Tb) : List Operand → St → ((lt : Bool) → (ts : List Ty) → tdens ts → St → Option R) → Option R
  | [], st, K => K true [] () st
  | x :: xs, st, K =>
    match st.ev x with
    | .one (.lf (.rdp lt t y 0)) => capArgs tb xs st fun lt' ts ys st => K (lt && lt') (t :: ts) (y, ys) st
    | .one (.lf (.ptr id 0)) =>
      match lookup st.store id with
      | some (.box bt cells) =>
        match (tb.ti bt).bind TI.ty with
        | some t =>
          readTy (Md.ofT (cells.all ltOf)) t cells st fun y st' =>
            match lookup st'.store id with
            | some (.box _ _) => capArgs tb xs (st'.freezeB id (cells.all ltOf) t y) fun lt ts ys st => K (cells.all ltOf && lt) (t :: ts) (y, ys) st
            | _ => none
        | none => none
      | _ => none
    | _ => none
def capLs (lt : Bool) : (ts : List Ty) → tdens ts → List V1
  | [], _ => []
  | t :: ts, x => .lf (.rdp lt t x.1 0) :: capLs lt ts x.2
/-- A function's value, called. -/
def callFv (tb : Tb) (v : AV) (vs : List V1) (st : St) (K : AV → St → Option R) : Option R :=
  match v with
  | .one (.lf (.fnc f)) => match tb.con f with | some con => con.run none vs st K | none => none
  | .one (.lf (.clo lt f agg t y)) => match tb.con f with | some con => con.run none (ofLv agg (leaves lt t y) :: vs) st K | none => none
  | .one (.lf (.cap lt f ts y)) => match tb.con f with | some con => con.run none (vs ++ capLs lt ts y) st K | none => none
  | _ => none
/-- A function with its first argument. -/
def mkFv (v : AV) (f : FuncId) (K : AV → Option R) : Option R :=
  match v with
  | .one (.agg ls) => gather ls fun lt t y => K (.lf (.clo lt f true t y))
  | .one (.lf l) => gather1 l fun lt t y => K (.lf (.clo lt f false t y))
  | _ => none
/-- So, with elements opened, and with functions as values. -/
def evOpD (tb : Tb) (o : Oper) (st : St) (K : AV → St → Option R) : Option R :=
  match o.op with
  | .load t p =>
    match st.ev p with
    | .one (.lf (.elp id sz j off)) => if isDeep st id = true then openZ id j st fun st' => evLoadZ tb t id sz j off st' fun v => K v st' else evOp tb o st K
    | _ => evOp tb o st K
  | .makeFunc fn first captured =>
    match fn, first.toList, captured.toList with
    | .func f, [x], [] => mkFv (st.ev x) f fun v => K v st
    | .func f, [], cs => capArgs tb cs st fun lt ts y st' => K (.lf (.cap lt f ts y)) st'
    | _, _, _ => none
  | .call c =>
    match c.callee with
    | .value (.tmp x) =>
      st.solid tb.deep (c.args.toList.map st.ev) fun st =>
        match allV1 (c.args.toList.map st.ev) with
        | some vs => callFv tb (st.ev (.tmp x)) vs st K
        | none => none
    | _ => evOp tb o st K
  | _ => evOp tb o st K

/-- Operations in the order of the text. -/
def evOps (tb : Tb) (ops : Array Oper) : List Oper → St → (St → Option R) → Option R
  | [], st, K => K st
  | o :: rest, st, K =>
    match o.guard with
    | none => evOpD tb o st fun v st' => evOps tb ops rest (st'.put o.dst v) K
    | some (j, want) =>
      match (ops[j]?).bind (·.dst) with
      | some d =>
        match st.env.getD d .dead with
        | .one (.lf (.v (.bool b))) =>
          let yes (st : St) : Option R := evOpD tb o st fun v st' => evOps tb ops rest (st'.put o.dst v) K
          let no (st : St) : Option R := evOps tb ops rest (st.put o.dst .undef) K
          let stT := st.put (some d) (.bool true)
          let stF := st.put (some d) (.bool false)
          match want with
          | true => cond b (yes stT) (no stF)
          | false => cond b (no stT) (yes stF)
        | .tup [] => evOps tb ops rest (st.put o.dst .undef) K
        | _ => none
      | none => none

/-- Whose block a pointer leads to. -/
def pid : AV → Option Nat
  | .one (.lf (.ptr id _)) => some id
  | .one (.lf (.elp id _ _ _)) => some id
  | _ => none
/-- Whether a load reads a row of the call's own. -/
def fromRow : AV → Bool
  | .one (.lf (.elp _ _ _ _)) => true
  | _ => false

/-! ### Regions that draw their order -/
/-- A store to a place that is known ahead of the region. -/
def isFixSt (ops : Array Oper) (o : Oper) : Bool := match o.op with | .store _ (.tmp y) _ => !(ops.toList.any fun p => p.dst == some y) | _ => false
/-- Such a one of several. -/
def isMSt (ops : Array Oper) (o : Oper) : Bool := isFixSt ops o && decide (2 ≤ (ops.toList.filter (isFixSt ops)).length)
def storeIn (M : List Nat) (o : Oper) (st : St) : Bool := match o.op with | .store _ p _ => (match st.ev p with | .one (.lf (.ptr id _)) => M.contains id | _ => false) | _ => false
def waits (ops : Array Oper) (j i : Nat) : Bool :=
  match ops[j]? with
  | some o => o.after.any fun e => Region.binds .any e && e.on == i
  | none => false
def isPure (o : Oper) : Bool :=
  match o.op with
  | .move _ => true
  | .assign _ => true
  | .pick _ _ _ => true
  | .binOp _ _ _ _ _ => true
  | .unOp _ _ _ => true
  | .convert _ _ _ => true
  | .nilCheck _ => true
  | .extract _ _ => true
  | .field _ _ _ => true
  | .fieldAddr _ _ _ => true
  | .indexAddr _ _ _ => true
  | .build _ _ => true
  | .call c => match c.callee with | .builtin .len => true | .builtin .max => true | .builtin .min => true | _ => false
  | _ => false
/-- An operation of a later phase. -/
def lateB (ops : Array Oper) (j : Nat) : Bool :=
  match ops[j]? with
  | some o => (o.after.any fun e => match e.ground with | .phase => true | _ => false) && !isMSt ops o && !isPure o
  | none => false
/-- A pure one that has a late one ahead of it in some order. -/
def floB (ops : Array Oper) (j : Nat) : Bool :=
  match ops[j]? with
  | some o => isPure o && o.after.any fun e => lateB ops e.on
  | none => false
def lateOp (ops : Array Oper) (j : Nat) : Bool := lateB ops j || floB ops j
def isLoad (o : Oper) : Bool := match o.op with | .load _ _ => true | _ => false
def isAppend (o : Oper) : Bool := match o.op with | .call c => (match c.callee with | .builtin .append => true | _ => false) | _ => false
/-- The numbers that a block or a row goes by. -/
def boxIds (st : St) (id : Nat) : List Nat := match lookup st.store id with | some (.box _ cells) => id :: cells.flatMap idsL | _ => [id]
def tameCall (tb : Tb) (f : FuncId) : Bool := match tb.con f with | some con => con.mu.isEmpty | none => false
/-- An operand's value, through moves of the same region. -/
def resv (ops : List Oper) (st : St) : Nat → Operand → AV
  | 0, x => st.ev x
  | n + 1, x =>
    match x with
    | .tmp t =>
      match ops.find? fun o => o.dst == some t with
      | some o => match o.op with | .move y => resv ops st n y | .assign y => resv ops st n y | .nilCheck y => resv ops st n y | _ => st.ev x
      | none => st.ev x
    | x => st.ev x
def muArg (ops : List Oper) (st : St) (args : Array Operand) (p : Nat) : List Nat :=
  match args[p]? with
  | some x => match resv ops st 4 x with | .one (.lf (.ptr id _)) => boxIds st id | .one (.lf (.own id)) => [id] | _ => []
  | none => []
def muOf (tb : Tb) (st : St) (ops : List Oper) : List Nat :=
  (List.range ops.length).flatMap fun i => match ops[i]? with
    | some o => (match o.op with
      | .call c => (match c.callee with | .value (.func f) => (match tb.con f with | some con => con.mu.flatMap (muArg (ops.take i) st c.args) | none => []) | _ => [])
      | .store _ p _ => if isMSt ops.toArray o = true then (pid (st.ev p)).toList else []
      | _ => [])
    | none => []
def loadId (o : Oper) (st : St) : Option Nat := match o.op with | .load _ p => pid (st.ev p) | _ => none
def loadOut (M : List Nat) (o : Oper) (st : St) : Bool := match loadId o st with | some id => !M.contains id | none => true

def tameOk (tb : Tb) (ap : Bool) (o : Oper) : Bool :=
  isPure o || isLoad o || match o.op with
    | .alloc _ => true
    | .box _ _ => true
    | .buildSlice _ _ _ => true
    | .makeSlice _ _ _ => true
    | .slice _ _ _ _ _ => true
    | .call c => (match c.callee with | .builtin .append => ap | .value (.func f) => tameCall tb f | _ => false)
    | _ => false
def loadRow (o : Oper) (st : St) : Bool := match o.op with | .load _ p => fromRow (st.ev p) | _ => true
/-- All late ones that are still to come wait for number i. -/
def lateWait (ops : Array Oper) (listed : Array Bool) (i : Nat) : Bool := (List.range ops.size).all fun j => j == i || listed.getD j true || !lateOp ops j || waits ops j i
/-- Whether number j waits for number i, itself or through others that are to come. -/
def viaB (ops : Array Oper) (listed : Array Bool) (i : Nat) : Nat → Nat → Bool
  | 0, j => waits ops j i
  | f + 1, j => waits ops j i || (List.range ops.size).any fun k => !listed.getD k true && waits ops j k && viaB ops listed i f k
def lateWaitV (ops : Array Oper) (listed : Array Bool) (i : Nat) : Bool := (List.range ops.size).all fun j => j == i || listed.getD j true || !lateOp ops j || viaB ops listed i 6 j
def allLate (ops : Array Oper) (listed : Array Bool) : Bool := (List.range ops.size).all fun j => listed.getD j true || lateOp ops j
def isApp (ops : Array Oper) (j : Nat) : Bool := match ops[j]? with | some o => isAppend o | none => false
/-- No append was made. -/
def noApp (ops : Array Oper) (listed : Array Bool) : Bool := (List.range ops.size).all fun j => !isApp ops j || !listed.getD j true
/-- All appends that are still to come wait for number i. -/
def appWait (ops : Array Oper) (listed : Array Bool) (i : Nat) : Bool := (List.range ops.size).all fun j => j == i || listed.getD j true || !isApp ops j || waits ops j i
def allLateA (ops : Array Oper) (listed : Array Bool) : Bool := (List.range ops.size).all fun j => listed.getD j true || lateOp ops j || isApp ops j
/-- Whether an append's base is read out of a row in the same region. -/
def isElem (ops : Array Oper) (t : Nat) : Bool :=
  ops.toList.any fun (l : Oper) => l.dst == some t && (match l.op with
    | .load _ (.tmp p) => ops.toList.any fun (q : Oper) => q.dst == some p && (match q.op with | .indexAddr _ _ _ => true | _ => false)
    | _ => false)
def rowBase (ops : Array Oper) : Bool :=
  ops.toList.any fun (o : Oper) => isAppend o && (match o.op with
    | .call c => (match c.args.toList with | .tmp t :: _ => isElem ops t | _ => false)
    | _ => false)
def apOf (ops : Array Oper) : Bool := (List.range ops.size).any fun j => !lateOp ops j && (match ops[j]? with | some o => isAppend o | none => false)

def guarded (ops : Array Oper) (o : Oper) (st : St) (yes no : St → Option R) : Option R :=
  match o.guard with
  | none => yes st
  | some (j, want) =>
    match (ops[j]?).bind (·.dst) with
    | some d =>
      match st.env.getD d .dead with
      | .one (.lf (.v (.bool b))) =>
        match want with
        | true => cond b (yes (st.put (some d) (.bool true))) (no (st.put (some d) (.bool false)))
        | false => cond b (no (st.put (some d) (.bool true))) (yes (st.put (some d) (.bool false)))
      | .tup [] => no st
      | _ => none
    | none => none

/-- A call that writes what M owns alone. -/
def evCallIn (tb : Tb) (M : List Nat) (o : Oper) (st : St) (K : AV → St → Option R) : Option R :=
  match o.op with
  | .call c =>
    match c.callee with
    | .value (.func f) =>
      st.solid tb.deep (c.args.toList.map st.ev) fun st =>
        match tb.con f, allV1 (c.args.toList.map st.ev) with
        | some con, some vs => con.run (some M) vs st K
        | _, _ => none
    | _ => none
  | _ => none
/-- So where deep rows may be taken over: none that M names takes any. -/
def evCallInF (tb : Tb) (M : List Nat) (o : Oper) (st : St) (K : AV → St → Option R) : Option R :=
  if (!tb.deep || M.isEmpty) = true then evCallIn tb M o st K
  else match o.op with
    | .call c => if solidFree M (c.args.toList.map st.ev) st = true then evCallIn tb M o st K else none
    | _ => none
def evOpF (tb : Tb) (M : List Nat) (o : Oper) (st : St) (K : AV → St → Option R) : Option R :=
  if (!tb.deep || M.isEmpty) = true then evOp tb o st K
  else match o.op with
    | .call c => if solidFree M (c.args.toList.map st.ev) st = true then evOp tb o st (fun v st' => if ownOut M v = true then K v st' else none) else none
    | .slice _ _ _ _ _ => none
    | _ => evOp tb o st K
def isMutCall (tb : Tb) (o : Oper) : Bool := match o.op with | .call c => (match c.callee with | .value (.func f) => (match tb.con f with | some con => !con.mu.isEmpty | none => false) | _ => false) | _ => false

def evAny (tb : Tb) (ops : Array Oper) (strict ap : Bool) (M : List Nat) : Nat → Array Bool → St → (St → Option R) → Option R
  | 0, listed, st, K => match Region.ready .any ops listed with | [] => K st | _ => none
  | fuel + 1, listed, st, K =>
    match Region.ready .any ops listed with
    | [] => K st
    | i0 :: more =>
      match (i0 :: more).find? (fun i => (match ops[i]? with | some o => isPure o || isLoad o | none => false) && Region.free .any ops listed i && (lateOp ops i || lateWaitV ops listed i)) with
      | some i =>
        match ops[i]? with
        | some o =>
          guarded ops o st
            (fun st => if (isPure o || (isLoad o && (!(ap && loadRow o st) || (strict && noApp ops listed && appWait ops listed i)) && loadOut M o st && lateWaitV ops listed i)) = true then evOp tb o st fun v st' => evAny tb ops strict ap M fuel (listed.setIfInBounds i true) (st'.put o.dst v) K else none)
            (fun st => evAny tb ops strict ap M fuel (listed.setIfInBounds i true) (st.put o.dst .undef) K)
        | none => none
      | none =>
        match more with
        | [] =>
          match ops[i0]? with
          | some o =>
            guarded ops o st
              (fun st => if isMutCall tb o = true then evCallInF tb M o st fun v st' => evAny tb ops strict ap M fuel (listed.setIfInBounds i0 true) (st'.put o.dst v) K else if (isMSt ops o && storeIn M o st) = true then evOp tb o st fun v st' => evAny tb ops strict ap M fuel (listed.setIfInBounds i0 true) (st'.put o.dst v) K else if tameOk tb ap o = true then evOpF tb M o st fun v st' => evAny tb ops strict ap M fuel (listed.setIfInBounds i0 true) (st'.put o.dst v) K else if (lateOp ops i0 && allLate ops (listed.setIfInBounds i0 true)) = true then evOp tb o st fun v st' => evAny tb ops strict ap M fuel (listed.setIfInBounds i0 true) (st'.put o.dst v) K else none)
              (fun st => evAny tb ops strict ap M fuel (listed.setIfInBounds i0 true) (st.put o.dst .undef) K)
          | none => none
        | _ => none

/-! ### A table of constants that is read at one place, in a region that draws -/
/-- It is made (b), an element's place is told (i), the element is read (l). -/
structure Grp where
  b : Nat
  i : Nat
  l : Nat
  ob : Oper
  oi : Oper
  ol : Oper
  db : Nat
  di : Nat
  dl : Nat
  x : Nat
def Grp.has (g : Grp) (j : Nat) : Bool := j == g.b || j == g.i || j == g.l
def dstAt (ops : Array Oper) (j : Nat) : Option Nat := (ops[j]?).bind (·.dst)
def Grp.ok (ops : Array Oper) (g : Grp) : Bool :=
  (g.b != g.i && g.b != g.l && g.i != g.l) && (g.db != g.di && g.db != g.dl && g.di != g.dl && g.x != g.db && g.x != g.di && g.x != g.dl) &&
  (g.ob.guard.isNone && g.oi.guard.isNone && g.ol.guard.isNone) && (g.ob.dst == some g.db && g.oi.dst == some g.di && g.ol.dst == some g.dl) &&
  isPure g.oi && isLoad g.ol && (match g.ob.op with | .buildSlice _ _ _ => true | _ => false) &&
  g.ob.after.isEmpty && (g.oi.after.all fun e => e.on != g.i && e.on != g.l) && (g.ol.after.all fun e => e.on == g.i || e.on == g.b) && waits ops g.i g.b && waits ops g.l g.i &&
  ((List.range ops.size).all fun j => g.has j || (match dstAt ops j with | some d => d != g.db && d != g.di && d != g.dl && (d != g.x || waits ops g.i j) | none => true))
def grpAt (ops : Array Oper) (b i l : Nat) : Option Grp :=
  match ops[b]?, ops[i]?, ops[l]? with
  | some ob, some oi, some ol =>
    match ob.op, ob.dst, oi.op, oi.dst, ol.op, ol.dst with
    | .buildSlice _ _ _, some db, .indexAddr _ (.tmp _) (.tmp x), some di, .load _ (.tmp _), some dl =>
      if Grp.ok ops ⟨b, i, l, ob, oi, ol, db, di, dl, x⟩ = true then some ⟨b, i, l, ob, oi, ol, db, di, dl, x⟩ else none
    | _, _, _, _, _, _ => none
  | _, _, _ => none
def isTab (o : Oper) : Bool := match o.op with | .buildSlice _ _ parts => o.after.isEmpty && (parts.toList.all fun (p : Nat × Operand) => (match p.2 with | .const _ => true | _ => false)) | _ => false
/-- The first such table; none, if the region has no loads beside. -/
def findGrp (ops : Array Oper) : Option Grp :=
  (List.range ops.size).findSome? fun b =>
    match ops[b]? with
    | some ob =>
      if isTab ob = true then
        (List.range ops.size).findSome? fun i =>
          if waits ops i b = true then
            (List.range ops.size).findSome? fun l => if waits ops l i = true then grpAt ops b i l else none
          else none
      else none
    | none => none
def elemOf (tb : Tb) (t : TypeId) : Option (TypeId × Ty) :=
  match tb.ti t with
  | some i => match i.desc with | .slice e => (match tb.ti e with | some ie => (match ie.ty with | some ty => some (e, ty) | none => none) | none => none) | _ => none
  | none => none
/-- The table, as a slice that is read. -/
def tabOf (tb : Tb) (g : Grp) (K : Leaf → Option R) : Option R :=
  match g.ob.op with
  | .buildSlice t _ _ =>
    match elemOf tb t with
    | some (e, ty) => evOp tb g.ob (St.blank tb.n) fun v st => match v with | .one (.lf l) => asRd .keep e ty l st fun xs _ => K (.rd true e ty xs) | _ => none
    | none => none
  | _ => none
/-- The place, and the element. -/
def plcOf (tb : Tb) (g : Grp) (tab idx : Leaf) (K : Leaf → Leaf → Option R) : Option R :=
  evOp tb g.oi (((St.blank tb.n).put (some g.db) (.lf tab)).put (some g.x) (.lf idx)) fun v _ =>
    match v with
    | .one (.lf p) => evOp tb g.ol ((St.blank tb.n).put (some g.di) (.lf p)) fun v _ => match v with | .one (.lf l) => if (idsL p).isEmpty ∧ (idsL l).isEmpty then K p l else none | _ => none
    | _ => none
def hideG (g : Grp) (st : St) : St := ((st.put (some g.db) .dead).put (some g.di) .dead).put (some g.dl) .dead
def gReady (ops : Array Oper) (g : Grp) (listed : Array Bool) : List Nat := (Region.ready .any ops listed).filter fun j => !g.has j
/-- What waits for the table's operations waits for others too. -/
def gSafe (ops : Array Oper) (g : Grp) (listed : Array Bool) : Bool :=
  (List.range ops.size).all fun j => g.has j || listed.getD j true || !(waits ops j g.b || waits ops j g.i || waits ops j g.l) || (List.range ops.size).any fun k => !g.has k && !listed.getD k false && waits ops j k
def gLast (ops : Array Oper) (g : Grp) (listed : Array Bool) : Bool :=
  (List.range ops.size).all fun j => g.has j || listed.getD j true || waits ops j g.l || (List.range ops.size).any fun k => !g.has k && !listed.getD k false && waits ops j k
/-- Whether the place can be told by now. -/
def gKnown (ops : Array Oper) (g : Grp) (listed : Array Bool) : Bool := g.oi.after.all fun e => !Region.binds .any e || e.on == g.b || listed.getD e.on false
def stepG (tb : Tb) (ops : Array Oper) (ap : Bool) (M : List Nat) (g : Grp) (rec : Array Bool → St → Option R) (listed : Array Bool) (st : St) : Option R :=
  if gSafe ops g listed = true then
    match gReady ops g listed with
    | [] => none
    | i0 :: more =>
      match (i0 :: more).find? (fun i => (match ops[i]? with | some o => isPure o || isLoad o | none => false) && Region.free .any ops listed i && (lateOp ops i || lateWait ops listed i)) with
      | some i =>
        match ops[i]? with
        | some o => guarded ops o st (fun st => if (isPure o || (isLoad o && !(ap && loadRow o st) && loadOut M o st && lateWait ops listed i)) = true then evOp tb o st fun v st' => rec (listed.setIfInBounds i true) (st'.put o.dst v) else none) (fun st => rec (listed.setIfInBounds i true) (st.put o.dst .undef))
        | none => none
      | none =>
        match more with
        | [] =>
          match ops[i0]? with
          | some o =>
            guarded ops o st
              (fun st => if isMutCall tb o = true then evCallIn tb M o st fun v st' => rec (listed.setIfInBounds i0 true) (st'.put o.dst v) else if tameOk tb ap o = true then evOp tb o st fun v st' => rec (listed.setIfInBounds i0 true) (st'.put o.dst v) else none)
              (fun st => rec (listed.setIfInBounds i0 true) (st.put o.dst .undef))
          | none => none
        | _ => none
  else none
/-- From where the place is known. -/
def evAnyG1 (tb : Tb) (ops : Array Oper) (ap : Bool) (M : List Nat) (g : Grp) (p l : Leaf) (K : St → Option R) : Nat → Array Bool → St → Option R
  | fuel + 3, listed, st =>
    if st.env.length = tb.n then
      match gReady ops g listed with
      | [] => if gLast ops g listed = true then evAny tb ops false ap M fuel (((listed.setIfInBounds g.b true).setIfInBounds g.i true).setIfInBounds g.l true) ((hideG g st).put (some g.dl) (.lf l)) K else none
      | _ =>
        match fuel with
        | 0 => none
        | f + 1 => stepG tb ops ap M g (evAnyG1 tb ops ap M g p l K (f + 3)) listed (hideG g st)
    else none
  | _, _, _ => none
def evAnyG0 (tb : Tb) (ops : Array Oper) (ap : Bool) (M : List Nat) (g : Grp) (tab : Leaf) (K : St → Option R) : Nat → Array Bool → St → Option R
  | fuel + 2, listed, st =>
    if st.env.length = tb.n then
      if gKnown ops g listed = true then
        match st.env.getD g.x .dead with
        | .one (.lf (.v (.int k n))) => plcOf tb g tab (.v (.int k n)) fun p l => evAnyG1 tb ops ap M g p l K (fuel + 2) listed st
        | _ => none
      else stepG tb ops ap M g (evAnyG0 tb ops ap M g tab K (fuel + 1)) listed (hideG g st)
    else none
  | _, _, _ => none
def evAnyG (tb : Tb) (ops : Array Oper) (ap : Bool) (M : List Nat) (g : Grp) (listed : Array Bool) (st : St) (K : St → Option R) : Option R :=
  if g.db < tb.n ∧ g.di < tb.n ∧ g.dl < tb.n then match tabOf tb g some with | some tab => if (idsL tab).isEmpty = true then evAnyG0 tb ops ap M g tab K ops.size listed st else none | none => none else none

/-! ### A block that is made beside other work, in a region that draws -/
def isAl (o : Oper) : Bool := (match o.op with | .alloc _ => true | _ => false) && o.guard.isNone && o.after.isEmpty
/-- Such a one: its number, and its variable. -/
def findAl (ops : Array Oper) : Option (Nat × Nat) :=
  (List.range ops.size).findSome? fun z =>
    match ops[z]? with
    | some o =>
      match o.dst with
      | some d => if (isAl o && ((List.range ops.size).any fun j => j != z && !waits ops j z && (match ops[j]? with | some p => !isPure p && !isLoad p | none => false)) && ((List.range ops.size).all fun j => j == z || dstAt ops j != some d)) = true then some (z, d) else none
      | none => none
    | none => none
/-- What is made: a block; a row of none; a row of one. -/
inductive ZK where
  | al (te : TypeId) (i : TI)
  | s0 (e : TypeId) (ty : Ty)
  | s1 (e : TypeId) (ty : Ty) (x : Operand)
def zKind (tb : Tb) (o : Oper) : Option ZK :=
  match o.op with
  | .alloc te => (tb.ti te).map (.al te)
  | .buildSlice t len parts =>
    match tb.ti t with
    | some i =>
      match i.desc with
      | .slice e =>
        match tb.ti e with
        | some ie =>
          match ie.ty with
          | some ty =>
            if ie.size = ty.sz then
              match len, parts.toList with
              | 0, [] => some (.s0 e ty)
              | 1, [(0, x)] => if ty.sz = 1 then some (.s1 e ty x) else none
              | _, _ => none
            else none
          | none => none
        | none => none
      | _ => none
    | none => none
  | _ => none
def zKindAt (tb : Tb) (ops : Array Oper) (z : Nat) : Option ZK := match ops[z]? with | some o => zKind tb o | none => none
/-- What it is made of is set before. -/
def zParts (ops : Array Oper) (z : Nat) (k : ZK) : Bool := match k with | .s1 _ _ (.tmp t) => (List.range ops.size).all fun j => dstAt ops j != some t || waits ops z j | _ => true
def oneV (v : AV) : Bool := match v with | .one (.lf (.v (.int _ _))) => true | .one (.lf (.rd _ _ _ _)) => true | _ => false
def zChk (ops : Array Oper) (z : Nat) (k : ZK) (listed : Array Bool) (st : St) : Bool := match k with | .s1 _ _ x => !(Region.ready .any ops listed).contains z || oneV (st.ev x) | _ => true
/-- Whether two come in no order. -/
def loose2 (ops : Array Oper) (i j : Nat) : Bool := !viaB ops (Array.replicate ops.size false) i 6 j && !viaB ops (Array.replicate ops.size false) j 6 i
/-- A row that is made beside other work. -/
def findSl (ops : Array Oper) : Option (Nat × Nat) :=
  (List.range ops.size).reverse.findSome? fun z =>
    match ops[z]? with
    | some o =>
      match o.op, o.dst with
      | .buildSlice _ len _, some d =>
        if (decide (len ≤ 1) && o.guard.isNone && ((List.range ops.size).any fun j => j != z && (match ops[j]? with | some p => !isPure p && !isLoad p | none => false) && loose2 ops z j) && ((List.range ops.size).all fun j => j == z || dstAt ops j != some d)) = true then some (z, d) else none
      | _, _ => none
    | none => none
def zReady (ops : Array Oper) (z : Nat) (listed : Array Bool) : List Nat := (Region.ready .any ops listed).filter fun j => j != z
/-- What waits for it waits for others too. -/
def zSafe (ops : Array Oper) (z : Nat) (listed : Array Bool) : Bool :=
  (List.range ops.size).all fun j => j == z || listed.getD j true || !waits ops j z || (List.range ops.size).any fun k => k != z && !listed.getD k false && waits ops j k
def zLast (ops : Array Oper) (z : Nat) (listed : Array Bool) : Bool :=
  (List.range ops.size).all fun j => j == z || listed.getD j true || waits ops j z || (List.range ops.size).any fun k => k != z && !listed.getD k false && waits ops j k
def stepZ (tb : Tb) (ops : Array Oper) (ap : Bool) (M : List Nat) (z : Nat) (k : ZK) (rec : Array Bool → St → Option R) (listed : Array Bool) (st : St) : Option R :=
  if zSafe ops z listed = true ∧ zChk ops z k listed st = true then
    match zReady ops z listed with
    | [] => none
    | i0 :: more =>
      match (i0 :: more).find? (fun i => (match ops[i]? with | some o => isPure o || isLoad o | none => false) && Region.free .any ops listed i && (lateOp ops i || lateWaitV ops listed i)) with
      | some i =>
        match ops[i]? with
        | some o => guarded ops o st (fun st => if (isPure o || (isLoad o && !(ap && loadRow o st) && loadOut M o st && lateWaitV ops listed i)) = true then evOp tb o st fun v st' => rec (listed.setIfInBounds i true) (st'.put o.dst v) else none) (fun st => rec (listed.setIfInBounds i true) (st.put o.dst .undef))
        | none => none
      | none =>
        match more with
        | [] =>
          match ops[i0]? with
          | some o =>
            guarded ops o st
              (fun st => if isMutCall tb o = true then evCallIn tb M o st fun v st' => rec (listed.setIfInBounds i0 true) (st'.put o.dst v) else if tameOk tb ap o = true then evOp tb o st fun v st' => rec (listed.setIfInBounds i0 true) (st'.put o.dst v) else none)
              (fun st => rec (listed.setIfInBounds i0 true) (st.put o.dst .undef))
          | none => none
        | _ => none
  else none
def evZ (k : ZK) (d : Nat) (st : St) (K : St → Option R) : Option R :=
  match k with
  | .al te i => K ((st.add (.box te (i.zero.map .v))).put (some d) (.lf (.ptr (fresh st.store) 0)))
  | .s0 e ty => K ((st.add (.row e ty [])).put (some d) (.lf (.own (fresh st.store))))
  | .s1 e ty x =>
    match ty, st.ev x with
    | .int k, .one (.lf (.v (.int k' n))) => if k = k' then K (st.put (some d) (.lf (.rd true e (.int k) [n]))) else none
    | .rs e1 t1, .one (.lf (.rd true e2 t2 xs)) => if e1 = e2 then cast xs fun ys : List t1.den => K (st.put (some d) (.lf (.rd true e (.rs e1 t1) [ys]))) else none
    | _, _ => none
def evAnyZ (tb : Tb) (ops : Array Oper) (ap : Bool) (M : List Nat) (z d : Nat) (k : ZK) (K : St → Option R) : Nat → Array Bool → St → Option R
  | 0, _, _ => none
  | fuel + 1, listed, st =>
    if d < st.env.length then
      match zReady ops z listed with
      | [] =>
        if ((zLast ops z listed = true ∧ M.contains (fresh st.store) = false) ∧ (Region.ready .any ops listed).contains z = true) ∧ zChk ops z k listed (st.put (some d) .dead) = true then
          evZ k d (st.put (some d) .dead) fun st' => evAny tb ops false ap M fuel (listed.setIfInBounds z true) st' K
        else none
      | _ :: _ =>
        match fuel with
        | 0 => none
        | f + 1 => stepZ tb ops ap M z k (evAnyZ tb ops ap M z d k K (f + 1)) listed (st.put (some d) .dead)
    else none

/-! ### Two variables that are made and set in one region that draws -/
structure Two where
  x : Nat
  y : Nat
  s : Nat
  t : Nat
  dx : Nat
  dy : Nat
def isQ (o : Oper) : Bool := (isPure o || isLoad o) && o.guard.isNone
def qList (ops : Array Oper) (g : Two) : List Nat := (List.range ops.size).filter fun j => j != g.x && j != g.y && j != g.s && j != g.t
def qSet (is : List Nat) (l : Array Bool) : Array Bool := is.foldl (fun l i => l.setIfInBounds i true) l
def setsAt (ops : Array Oper) (d j : Nat) : Bool := match ops[j]? with | some o => (match o.op with | .store _ (.tmp y) _ => y == d && o.guard.isNone | _ => false) | none => false
def isAlAt (ops : Array Oper) (j : Nat) : Bool := match ops[j]? with | some o => isAl o | none => false
def Two.ok (ops : Array Oper) (g : Two) : Bool :=
  let L := qSet (qList ops g) (Array.replicate ops.size false)
  g.dx != g.dy && isAlAt ops g.x && isAlAt ops g.y && setsAt ops g.dx g.s && setsAt ops g.dy g.t && dstAt ops g.x == some g.dx && dstAt ops g.y == some g.dy &&
  Region.ready .any ops L == [g.x, g.y] && Region.ready .any ops (L.setIfInBounds g.x true) == [g.y] && Region.ready .any ops (L.setIfInBounds g.y true) == [g.x] &&
  Region.ready .any ops ((L.setIfInBounds g.x true).setIfInBounds g.y true) == [g.s] && Region.ready .any ops (((L.setIfInBounds g.x true).setIfInBounds g.y true).setIfInBounds g.s true) == [g.t] &&
  (Region.ready .any ops ((((L.setIfInBounds g.x true).setIfInBounds g.y true).setIfInBounds g.s true).setIfInBounds g.t true)).isEmpty && ops.size == (qList ops g).length + 4
def findTwo (ops : Array Oper) : Option Two :=
  match (List.range ops.size).filter (isAlAt ops) with
  | [x, y] =>
    match dstAt ops x, dstAt ops y with
    | some dx, some dy =>
      match (List.range ops.size).filter (setsAt ops dx), (List.range ops.size).filter (setsAt ops dy) with
      | [s], [t] => if Two.ok ops ⟨x, y, s, t, dx, dy⟩ = true then some ⟨x, y, s, t, dx, dy⟩ else none
      | _, _ => none
    | _, _ => none
  | _ => none
def evQ (tb : Tb) (ops : Array Oper) : List Nat → Array Bool → St → (St → Option R) → Option R
  | [], _, st, K => K st
  | i :: is, l, st, K =>
    match ops[i]? with
    | some o =>
      if ((Region.ready .any ops l).contains i && Region.free .any ops l i && isQ o) = true then evOp tb o st fun v st' => evQ tb ops is (l.setIfInBounds i true) (st'.put o.dst v) K
      else none
    | none => none
def evTwo (tb : Tb) (ops : Array Oper) (g : Two) (st : St) (K : St → Option R) : Option R :=
  evQ tb ops (qList ops g) (Array.replicate ops.size false) st fun st =>
    match ops[g.x]?, ops[g.y]?, ops[g.s]?, ops[g.t]? with
    | some ox, some oy, some os, some ot =>
      match ox.op, oy.op with
      | .alloc tx, .alloc ty =>
        match tb.ti tx, tb.ti ty with
        | some ix, some iy =>
          let f1 := fresh st.store
          let st1 := (st.add (.box tx (ix.zero.map .v))).put (some g.dx) (.lf (.ptr f1 0))
          let f2 := fresh st1.store
          let st2 := (st1.add (.box ty (iy.zero.map .v))).put (some g.dy) (.lf (.ptr f2 0))
          if storeIn [f1, f2] os st2 = true then
            evOp tb os st2 fun v st3 =>
              if storeIn [f1, f2] ot (st3.put os.dst v) = true then evOp tb ot (st3.put os.dst v) fun v' st4 => K (st4.put ot.dst v') else none
          else none
        | _, _ => none
      | _, _ => none
    | _, _, _, _ => none

/-- What an operand comes to, through moves, places in blocks and loads out of these. -/
def resvP (tb : Tb) (ops : List Oper) (st : St) : Nat → Operand → AV
  | 0, x => st.ev x
  | n + 1, x =>
    match x with
    | .tmp t =>
      match ops.find? fun o => o.dst == some t with
      | some o => match o.op with
        | .move y => resvP tb ops st n y
        | .assign y => resvP tb ops st n y
        | .nilCheck y => resvP tb ops st n y
        | .load _ p => (match resvP tb ops st n p with | .one (.lf (.ptr id off)) => (match lookup st.store id with | some (.box _ cells) => .one (.lf (cells.getD off .dead)) | _ => .dead) | _ => .dead)
        | .fieldAddr t p f => (match resvP tb ops st n p with | .one (.lf (.ptr id off)) => (match fieldAt tb t f with | some (o, _) => .one (.lf (.ptr id (off + o))) | none => .dead) | _ => .dead)
        | _ => .dead
      | none => st.ev x
    | x => st.ev x
/-- An element of a deep row that such a region reads: the row and the place. -/
def findOpen (tb : Tb) (ops : List Oper) (st : St) : Option (Nat × Nat) :=
  (List.range ops.length).findSome? fun i =>
    match ops[i]? with
    | some o =>
      match o.op with
      | .load _ (.tmp q) =>
        match (ops.take i).find? fun o => o.dst == some q with
        | some oq =>
          match oq.op with
          | .indexAddr _ x k =>
            match resvP tb (ops.take i) st 6 x, st.ev k with
            | .one (.lf (.own id)), .one (.lf (.v (.int _ n))) => (match lookup st.store id with | some (.deep _ _ _) => some (id, n.toNat) | _ => none)
            | _, _ => none
          | _ => none
        | none => none
      | _ => none
    | none => none
def preOpen (tb : Tb) (ops : List Oper) (st : St) (K : St → Option R) : Option R :=
  match findOpen tb ops st with
  | some (id, j) => openZ id j st K
  | none => K st

/-- Where calls write, no rows are taken over. -/
def tbM (tb : Tb) (M : List Nat) : Tb := { tb with deep := tb.deep && M.isEmpty }
/-- Whether rows are put behind a row. -/
def deepApp (tb : Tb) (ops : Array Oper) : Bool :=
  ops.toList.any fun o => isAppend o && (match o.op with
    | .call c => (match c.argTypes[0]? with
      | some t => (match tb.ti t with
        | some i => (match i.desc with | .slice e => (match tb.ti e with | some ie => (match ie.ty with | some ty => !flat ty | none => false) | none => false) | _ => false)
        | none => false)
      | none => false)
    | _ => false)
/-- But where an append's base is an element of such a row, or rows are put behind one. -/
def tbS (tb : Tb) (ops : Array Oper) (M : List Nat) : Tb := { tb with deep := tb.deep && (M.isEmpty || rowBase ops || deepApp tb ops) }

def loopK (n : Nat) (body : St → (Ex → St → Option R) → Option R) (nrm : St → St) (K : Ex → St → Option R) : St → Option R :=
  n.rec (fun _ => none) fun _ rec st => body (nrm st) fun e st' => match e with | .normal => rec st' | e => K e st'

/-- The number of the first region of a text. -/
def firstReg : Code → Option Nat
  | .region id _ _ => some id
  | .seq a _ => firstReg a
  | .block _ c => firstReg c
  | .loop c => firstReg c
  | _ => none

def evCode (tb : Tb) : Code → St → (Ex → St → Option R) → Option R
  | .skip, st, K => K .normal st
  | .region _ ops draw, st, K =>
    match draw with
    | false => evOps tb ops ops.toList st (K .normal)
    | true => 
      if Region.noSelect ops = true then
        match findGrp ops with
        | some g => evAnyG (tbM tb (muOf tb st ops.toList)) ops (apOf ops) (muOf tb st ops.toList) g (Array.replicate ops.size false) st (K .normal)
        | none =>
        match findTwo ops with
        | some g => evTwo (tbM tb (muOf tb st ops.toList)) ops g st (K .normal)
        | none =>
        match findAl ops with
        | some (z, d) => (match zKindAt tb ops z with | some k => evAnyZ (tbM tb (muOf tb st ops.toList)) ops (apOf ops) (muOf tb st ops.toList) z d k (K .normal) ops.size (Array.replicate ops.size false) st | none => none)
        | none =>
        match findSl ops with
        | some (z, d) => (match zKindAt tb ops z with | some k => if zParts ops z k = true then evAnyZ (tbM tb (muOf tb st ops.toList)) ops (apOf ops) (muOf tb st ops.toList) z d k (K .normal) ops.size (Array.replicate ops.size false) st else none | none => none)
        | none => preOpen tb ops.toList st fun st => evAny (tbS tb ops (muOf tb st ops.toList)) ops (rowBase ops) (apOf ops) (muOf tb st ops.toList) ops.size (Array.replicate ops.size false) st (K .normal)
      else none
  | .seq a b, st, K => evCode tb a st fun e st' =>
    match e with
    | .normal =>
      match (firstReg b).bind tb.ct with
      | some c =>
        if st'.env.length = tb.n then
          getVals c.sig st' fun v => match c.run v with | some o => putOut tb.n c.outs o K | none => none
        else none
      | none => evCode tb b st' K
    | e => K e st'
  | .cond c a b, st, K => boolOf (st.ev c) fun t => cond t (evCode tb a st K) (evCode tb b st K)
  | .block id c, st, K =>
    match tb.lp id with
    | some l =>
      if st.env.length = tb.n then
        getVals l.sig st fun v =>
          match l.run tb.fuel v with
          | some o => putOut tb.n l.outs o fun e st' => match e with | .exit j => if j = id then K .normal st' else K (.exit j) st' | e => K e st'
          | none => none
      else none
    | none => evCode tb c st fun e st' => match e with | .exit j => if j = id then K .normal st' else K (.exit j) st' | e => K e st'
  | .loop c, st, K => loopK tb.fuel (evCode tb c) (St.norm tb.vars) K st
  | .exit id, st, K => K (.exit id) st
  | .ret, st, K => K .ret st
  | _, _, _ => none

/-- The loop's plain form is what its code does. -/
def LpOk (tb : Tb) (body : Code) (l : Lp) : Prop :=
  (∀ v, l.run 0 v = none) ∧ ∀ m v, l.run (m + 1) v = evCode tb body (putVals l.sig v (St.blank tb.n)) fun e st' => if st'.env.length = tb.n then (match e with | .normal => getVals l.sig st' fun v' => l.run m v' | e => getOut l.outs e st' some) else none

/-- All blocks of a text, by their numbers. -/
def blocks : Code → List (Nat × Code)
  | .seq a b => blocks a ++ blocks b
  | .cond _ a b => blocks a ++ blocks b
  | .block id c => (id, c) :: blocks c
  | .loop c => blocks c
  | _ => []
def CtOk (tb : Tb) (b : Code) (c : Ct) : Prop :=
  ∀ v, c.run v = evCode tb b (putVals c.sig v (St.blank tb.n)) fun e st' => if st'.env.length = tb.n then getOut c.outs e st' some else none
/-- All that stands second. -/
def seconds : Code → List (Option Nat × Code)
  | .seq a b => (firstReg b, b) :: (seconds a ++ seconds b)
  | .cond _ a b => seconds a ++ seconds b
  | .block _ c => seconds c
  | .loop c => seconds c
  | _ => []
/-- No operation writes a variable of these. -/
def fixOk (fixed : List Nat) : Code → Bool
  | .region _ ops _ => ops.toList.all fun o => match o.dst with | some d => !fixed.contains d | none => true
  | .seq a b => fixOk fixed a && fixOk fixed b
  | .cond _ a b => fixOk fixed a && fixOk fixed b
  | .block _ c => fixOk fixed c
  | .loop c => fixOk fixed c
  | _ => true
structure LpAll (tb : Tb) (code : Code) : Prop where
  fx : fixOk tb.fixed code = true
  lp : ∀ p ∈ blocks code, ∀ l, tb.lp p.1 = some l → ∃ body, p.2 = .loop body ∧ LpOk tb body l
  ct : ∀ p ∈ seconds code, ∀ c, p.1.bind tb.ct = some c → CtOk tb p.2 c

/-- What a call hands back. -/
def evRes (tb : Tb) : List ResultVar → St → (List V1 → Option R) → Option R
  | [], _, K => K []
  | .tmp t :: r, st, K => match st.env.getD t .dead with | .one v => evRes tb r st fun vs => K (v :: vs) | _ => none
  | .cell a t :: r, st, K => evLoad tb t (st.env.getD a .dead) st fun v => match v with | .one v => evRes tb r st fun vs => K (v :: vs) | _ => none

/-- A function's run, its parameters laid as a signature says. -/
def evFn (tb : Tb) (fn : Func) (sig : List (Nat × LK)) (x : sdens sig) (K : List V1 → St → Option R) : Option R :=
  match fn.body with
  | some c =>
    if sig.length ≤ fn.ntmps then
      evCode tb c (putVals sig x (St.blank fn.ntmps)) fun e st =>
        match e with
        | .normal => evRes tb fn.results.toList st fun vs => K vs st
        | .ret => evRes tb fn.results.toList st fun vs => K vs st
        | _ => none
    else none
  | none => none

/-! ### What types are -/
def tyFields (g : TypeId → Option Ty) : List Field → Option Ty
  | [] => none
  | f :: fs =>
    match fs with
    | [] => g f.type
    | _ => match g f.type, tyFields g fs with | some a, some b => some (.pair a b) | _, _ => none
def tyOf (P : Program) : Nat → TypeId → Option Ty
  | 0, _ => none
  | n + 1, t =>
    match P.underlying t with
    | some (.int k) => some (.int k)
    | some .bool => some .bool
    | some .string => some .str
    | some (.slice e) => (tyOf P n e).map (.rs e)
    | some (.struct fs) => tyFields (tyOf P n) fs.toList
    | _ => none

def tyIf (P : Program) (t : TypeId) (sz : Nat) : Option Ty :=
  match tyOf P 8 t with
  | some y => if y.sz = sz then some y else none
  | none => none

def tiOf (P : Program) (t : TypeId) : Option TI :=
  match P.underlying t, P.info? t with
  | some d, some f =>
    match f.zero with
    | some z =>
      let i : TI := ⟨d, f.size, f.bytes, z.cells.toList, tyIf P t f.size, !P.stoodInHeld t && !P.eqGuardType P.depth t⟩
      if i.zero.length = i.size ∧ (i.zero.all Value.oneCell') = true ∧ (i.isAgg = true ∨ i.size = 1) then some i else none
    | none => none
  | _, _ => none

/-! ### Contracts out of signatures -/
/-- Kinds, numbered. -/
@[reducible] def num : Nat → List LK → List (Nat × LK)
  | _, [] => []
  | i, k :: ks => (i, k) :: num (i + 1) ks
@[reducible] def pdens (ps : List LK) : Type := sdens (num 0 ps)

@[reducible] def keepCs : List CK → List CK
  | [] => []
  | .o t :: ks => .o t :: keepCs ks
  | .v _ t :: ks => .v true t :: keepCs ks
  | .f k :: ks => .f k.keep :: keepCs ks
  | .g f :: ks => .g f :: keepCs ks
  | .r e t :: ks => .r e t :: keepCs ks
/-- Whether it is told for good. -/
def CK.kept : CK → Bool
  | .v want _ => want
  | .r _ _ => true
  | .o _ => true
  | .f k => k.want
  | .g _ => true
def LK.kept : LK → Bool
  | .c _ k => k.kept
  | .b _ ks => ks.all CK.kept
  | .t _ _ => true
/-- Whether the callee may write what it is handed. -/
def LK.mut : LK → Bool
  | .c _ (.v _ _) => false
  | .c _ (.f _) => false
  | .c _ (.g _) => false
  | _ => true
/-- Whether it hands back what was written. -/
def LK.back : LK → Bool
  | .c _ (.v _ _) => false
  | .c _ (.f _) => false
  | .c _ (.g _) => false
  | .t _ _ => false
  | _ => true
@[reducible] def muts : List LK → List LK
  | [] => []
  | .c _ (.v _ _) :: ks => muts ks
  | .c _ (.f _) :: ks => muts ks
  | .c _ (.g _) :: ks => muts ks
  | .c agg (.r e t) :: ks => .c agg (.r e t) :: muts ks
  | .c agg (.o t) :: ks => .c agg (.o t) :: muts ks
  | .b t cs :: ks => .b t (keepCs cs) :: muts ks
  | .t _ _ :: ks => muts ks
/-- What a function hands back: its results, and what it wrote. -/
@[reducible] def rdens (ps rs : List LK) : Type := pdens (rs ++ muts ps)

def Md.ofA (hm want : Bool) : Md := if want then .keep else if hm then .hold else .see

/-- The rows that kinds take out of leaves. -/
def ckIds : List CK → List Leaf → List Nat
  | .o t :: ks, ls => (ls.take t.sz).flatMap idsL ++ ckIds ks (ls.drop t.sz)
  | .v _ t :: ks, ls => ckIds ks (ls.drop t.sz)
  | .r _ _ :: ks, l :: ls => idsL l ++ ckIds ks ls
  | .f _ :: ks, _ :: ls => ckIds ks ls
  | .g _ :: ks, _ :: ls => ckIds ks ls
  | _, _ => []
def inLim (lim : Option (List Nat)) (ids : List Nat) : Bool := match lim with | some M => ids.all M.contains | none => true
/-- What leaves hold, and who their rows are. -/
def peekO : (t : Ty) → List Leaf → St → Option (t.den × List (Option Nat))
  | .int k, ls, _ => match ls with | [.v (.int k' n)] => if k = k' then some (n, []) else none | _ => none
  | .bool, ls, _ => match ls with | [.v (.bool b)] => some (b, []) | _ => none
  | .str, ls, _ => match ls with | [.v (.string s)] => some (s, []) | _ => none
  | .rs e t, ls, st =>
    match ls with
    | [.own id] =>
      match lookup st.store id with
      | some (.row e' _ xs) => if flat t = true ∧ e = e' then cast xs fun ys => some (ys, [some id]) else none
      | some (.deep e' _ xs) => if e = e' then cast xs fun ys => some (ys, [some id]) else none
      | _ => none
    | [.v (.slice none 0 0)] => some ([], [none])
    | _ => none
  | .pair a b, ls, st =>
    match peekO a (ls.take a.sz) st, peekO b (ls.drop a.sz) st with
    | some (x, i), some (y, j) => some ((x, y), i ++ j)
    | _, _ => none
/-- Rows that are lent hold something else. -/
def lendO : (t : Ty) → t.den → List (Option Nat) → St → List (Option Nat) × St
  | .rs e t, xs, ids, st =>
    match ids with
    | some id :: ids => (ids, st.setEnt id (mkRow e t xs))
    | none :: ids => (ids, st)
    | [] => ([], st)
  | .pair a b, p, ids, st => lendO b p.2 (lendO a p.1 ids st).1 (lendO a p.1 ids st).2
  | .int _, _, ids, st => (ids, st)
  | .bool, _, ids, st => (ids, st)
  | .str, _, ids, st => (ids, st)
/-- How many rows. -/
def rsN : Ty → Nat
  | .rs _ _ => 1
  | .pair a b => rsN a + rsN b
  | _ => 0
def fewIds : List (Option Nat) → Bool
  | [] => true
  | o :: ids => (match o with | some id => !ids.contains (some id) | none => true) && fewIds ids
/-- A function's value, or a place that is read: a block of the caller's own is lent. -/
def lendP (hm : Bool) : (k : FK) → Leaf → St → (k.den → St → Option R) → Option R
  | .pt false t, .ptr id 0, st, K =>
    match hm with
    | false => (match lookup st.store id with | some (.box _ cells) => readTy .see t cells st K | _ => none)
    | true => none
  | k, l, st, K => k.get k.want l fun x => K x st
/-- The arguments, out of what the caller hands on; ids: what is lent; lim: what may be. -/
def readArgs (lim : Option (List Nat)) (hm : Bool) : (i : Nat) → (ps : List LK) → List V1 → List (Option Nat) → St → (sdens (num i ps) → List (Option Nat) → St → Option R) → Option R
  | _, [], vs, ids, st, K => match vs with | [] => K () ids st | _ => none
  | i, .c agg (.v want t) :: ps, vs, ids, st, K =>
    match vs with
    | v :: vs =>
      match lvOf agg t.sz v with
      | some ls => readTy (Md.ofA hm want) t ls st fun x st => readArgs lim hm (i + 1) ps vs ids st fun xs ids st => K (x, xs) ids st
      | none => none
    | [] => none
  | i, .c agg (.r e t) :: ps, vs, ids, st, K =>
    match vs with
    | .lf (.own id) :: vs =>
      if (agg = false ∧ ids.contains (some id) = false) ∧ inLim lim [id] = true then
        match lookup st.store id with
        | some (.row e' _ xs) => if e = e' then cast xs fun ys : List t.den => readArgs lim hm (i + 1) ps vs (ids ++ [some id]) st fun xs' ids st => K (ys, xs') ids st else none
        | _ => none
      else none
    | .lf (.v (.slice none 0 0)) :: vs => if agg = false then readArgs lim hm (i + 1) ps vs (ids ++ [none]) st fun xs' ids st => K ([], xs') ids st else none
    | _ => none
  | i, .c agg (.o t) :: ps, vs, ids, st, K =>
    match vs with
    | v :: vs =>
      match lvOf agg t.sz v with
      | some ls =>
        match peekO t ls st with
        | some (x, new) =>
          if fewIds (ids ++ new) = true ∧ (new.all fun o => match o with | some id => inLim lim [id] | none => true) = true then
            readArgs lim hm (i + 1) ps vs (ids ++ new) st fun xs' ids st => K (x, xs') ids st
          else none
        | none => none
      | none => none
    | [] => none
  | i, .c agg (.f k) :: ps, vs, ids, st, K =>
    match vs with
    | .lf l :: vs => if agg = false then lendP hm k l st fun y st => readArgs lim hm (i + 1) ps vs ids st fun xs ids st => K (y, xs) ids st else none
    | _ => none
  | i, .c agg (.g f) :: ps, vs, ids, st, K =>
    match vs with
    | .lf (.fnc f') :: vs => if agg = false ∧ f' = f then readArgs lim hm (i + 1) ps vs ids st fun xs ids st => K ((), xs) ids st else none
    | _ => none
  | i, .t agg t :: ps, vs, ids, st, K =>
    match vs with
    | v :: vs =>
      match lvOf agg t.sz v with
      | some ls => if inLim lim (ls.flatMap idsL) = true then takeO t ls st fun x st => readArgs lim hm (i + 1) ps vs ids st fun xs ids st => K (x, xs) ids st else none
      | none => none
    | [] => none
  | i, .b t ks :: ps, vs, ids, st, K =>
    match vs with
    | .lf (.ptr id 0) :: vs =>
      if ids.contains (some id) = false then
        match lookup st.store id with
        | some (.box t' ls) => if t = t' ∧ inLim lim (id :: ckIds ks ls) = true then getCKs ks ls st fun x st => readArgs lim hm (i + 1) ps vs (ids ++ [some id]) st fun xs ids st => K (x, xs) ids st else none
        | _ => none
      else none
    | _ => none

def csz : List CK → Nat
  | [] => 0
  | k :: ks => k.sz + csz ks

/-- What was lent: rows hold what was written; blocks are filled below. -/
def lendSt : (i : Nat) → (ms : List LK) → sdens (num i ms) → List (Option Nat) → St → St
  | _, [], _, _, st => st
  | i, .c _ (.v _ _) :: ms, x, ids, st => lendSt (i + 1) ms x.2 ids st
  | i, .c _ (.f _) :: ms, x, ids, st => lendSt (i + 1) ms x.2 ids st
  | i, .c _ (.g _) :: ms, x, ids, st => lendSt (i + 1) ms x.2 ids st
  | i, .c _ (.r e t) :: ms, x, ids, st =>
    match ids with
    | some id :: ids => lendSt (i + 1) ms x.2 ids (st.setEnt id (.row e t x.1))
    | none :: ids => lendSt (i + 1) ms x.2 ids st
    | [] => st
  | i, .c _ (.o t) :: ms, x, ids, st => lendSt (i + 1) ms x.2 (lendO t x.1 ids st).1 (lendO t x.1 ids st).2
  | i, .t _ _ :: ms, x, ids, st => lendSt (i + 1) ms x.2 ids st
  | i, .b t ks :: ms, x, ids, st =>
    match ids with
    | some id :: ids => lendSt (i + 1) ms x.2 ids (st.setEnt id (.box t (List.replicate (csz ks) .dead)))
    | none :: ids => lendSt (i + 1) ms x.2 ids st
    | [] => st
def backSt : (i : Nat) → (ms : List LK) → sdens (num i ms) → List (Option Nat) → St → St
  | _, [], _, _, st => st
  | i, .c _ (.o t) :: ms, x, ids, st => backSt (i + 1) ms x.2 (ids.drop (rsN t)) st
  | i, .t _ _ :: ms, x, ids, st => backSt (i + 1) ms x.2 ids st
  | i, .c _ _ :: ms, x, ids, st =>
    match ids with
    | _ :: ids => backSt (i + 1) ms x.2 ids st
    | [] => st
  | i, .b t ks :: ms, x, ids, st =>
    match ids with
    | some id :: ids => backSt (i + 1) ms x.2 ids ((putCKs ks x.1 st).2.setEnt id (.box t (putCKs ks x.1 st).1))
    | none :: ids => backSt (i + 1) ms x.2 ids st
    | [] => st
def lendAll : (i : Nat) → (rs ms : List LK) → sdens (num i (rs ++ ms)) → List (Option Nat) → St → St
  | i, [], ms, x, ids, st => lendSt i ms x ids st
  | i, _ :: rs, ms, x, ids, st => lendAll (i + 1) rs ms x.2 ids st
/-- What the caller is given. -/
def giveAll : (i : Nat) → (rs ms : List LK) → sdens (num i (rs ++ ms)) → List (Option Nat) → St → List V1 × St
  | i, [], ms, x, ids, st => ([], backSt i ms x ids st)
  | i, .t agg t :: rs, ms, x, ids, st => (ofLv agg (putCKs [.o t] (x.1, ()) st).1 :: (giveAll (i + 1) rs ms x.2 ids (putCKs [.o t] (x.1, ()) st).2).1, (giveAll (i + 1) rs ms x.2 ids (putCKs [.o t] (x.1, ()) st).2).2)
  | i, .c agg k :: rs, ms, x, ids, st => (ofLv agg (putCKs [k] (x.1, ()) st).1 :: (giveAll (i + 1) rs ms x.2 ids (putCKs [k] (x.1, ()) st).2).1, (giveAll (i + 1) rs ms x.2 ids (putCKs [k] (x.1, ()) st).2).2)
  | i, .b t ks :: rs, ms, x, ids, st =>
    (.lf (.ptr (fresh (putCKs ks x.1 st).2.store) 0) :: (giveAll (i + 1) rs ms x.2 ids ((putCKs ks x.1 st).2.add (.box t (putCKs ks x.1 st).1))).1, (giveAll (i + 1) rs ms x.2 ids ((putCKs ks x.1 st).2.add (.box t (putCKs ks x.1 st).1))).2)

def resAV : List V1 → AV
  | [v] => .one v
  | vs => .tup vs

def present (store : List (Nat × Ent)) (ids : List (Option Nat)) : Bool := ids.all fun o => match o with | some id => (lookup store id).isSome | none => true

def mutNums : List (Nat × LK) → List Nat
  | [] => []
  | (i, k) :: sig => if k.back then i :: mutNums sig else mutNums sig
def muNums : List (Nat × LK) → List Nat
  | [] => []
  | (i, k) :: sig => if k.mut then i :: muNums sig else muNums sig

/-- The contract of a function that computes F. -/
def conOf (ps rs : List LK) (F : pdens ps → Option (rdens ps rs)) : Con where
  run lim vs st K := readArgs lim (ps.any LK.mut) 0 ps vs [] st fun xs ids st' =>
    if present st'.store ids = true then
      match F xs with
      | some ys => K (resAV (giveAll 0 rs (muts ps) ys ids (lendAll 0 rs (muts ps) ys ids st')).1) (giveAll 0 rs (muts ps) ys ids (lendAll 0 rs (muts ps) ys ids st')).2
      | none => none
    else none
  mu := muNums (num 0 ps)

/-! A callee that may hand on what it is handed: what is read there stays for the caller's own call. -/
def strL : Leaf → Leaf
  | .rd _ e t xs => .rd true e t xs
  | .rdp _ t x off => .rdp true t x off
  | .clo _ f agg t x => .clo true f agg t x
  | .cap _ f ts x => .cap true f ts x
  | l => l
def wkL : Leaf → Leaf
  | .rd _ e t xs => .rd false e t xs
  | .rdp _ t x off => .rdp false t x off
  | .clo _ f agg t x => .clo false f agg t x
  | .cap _ f ts x => .cap false f ts x
  | l => l
def fixL (l : Leaf) : Bool := (idsL l).isEmpty
def keepA (old new : AV) : AV :=
  match old with
  | .one (.lf l) => if fixL l = true then .one (.lf l) else mapA wkL new
  | .one (.agg ls) => if ls.all fixL = true then .one (.agg ls) else mapA wkL new
  | _ => mapA wkL new
def flatSt (st : St) : Bool := st.store.all fun p => match p.2 with | .row _ t _ => flat t | _ => true
def okL : Leaf → Bool
  | .rd lt _ _ _ => lt
  | .rdp lt _ _ _ => lt
  | .clo lt _ _ _ _ => lt
  | .cap lt _ _ _ => lt
  | _ => true
def strV : V1 → Bool
  | .lf l => okL l
  | .agg ls => ls.all okL
/-- All that is read here stays for good. -/
def strongSt (vs : List V1) (st : St) : Bool := vs.all strV && st.store.all fun p => match p.2 with | .box _ ls => ls.all okL | _ => true
def conAl (con : Con) : Con where
  run lim vs st K := if strongSt vs st = true then con.run lim vs st K else con.run lim (vs.map (mapV strL)) (st.map strL) fun v st' => if flatSt st' = true then K (mapA wkL v) { env := List.zipWith keepA st.env st'.env, store := (st'.map wkL).store } else none
  mu := con.mu

/-- What stands in the variables of parameters that may be written. -/
def mutVals : List Nat → St → Option (List V1)
  | [], _ => some []
  | s :: ss, st => match st.env.getD s .dead with | .one v => (mutVals ss st).map (v :: ·) | _ => none

/-- What the evaluator finds of a function. -/
def evSig (tb : Tb) (fn : Func) (ps rs : List LK) (xs : pdens ps) : Option (rdens ps rs) :=
  evFn tb fn (num 0 ps) xs fun vs st => match mutVals (mutNums (num 0 ps)) st with | some ms => if vs.length = rs.length then getVals (num 0 (rs ++ muts ps)) { env := (vs ++ ms).map .one, store := st.store } some else none | none => none

end Go.Proofs.Ytdacfaincamliaa.Ev
