import Derived.Orders
import Derived.Still
import Derived.Deep.Quiet
import Derived.Laws.AppendOwn
namespace Go.Vee

/-! ## Scalar operations, behind a record: a variable while a body is computed -/
structure Alg where
  ltB : Int → Int → Bool
  leB : Int → Int → Bool
  eqB : Int → Int → Bool
  eqS : List Int → List Int → Bool
  eqO : Bool → Bool → Bool
  notB : Bool → Bool
  iteB : Bool → Bool → Bool → Bool
  addI : Int → Int → Int
  subI : Int → Int → Int
  mulI : Int → Int → Int
  divI : Int → Int → Int
  modI : Int → Int → Int
  wrapI : IntKind → Int → Int
  bitI : BinOp → IntKind → Int → Int → Int
  shlI : IntKind → Int → Int → Int
  shrI : Int → Int → Int
  natI : Nat → Int
  toN : Int → Nat
  addN : Nat → Nat → Nat
  subN : Nat → Nat → Nat
  minN : Nat → Nat → Nat
  lenL : {α : Type} → List α → Nat
  getL : {α : Type} → List α → Nat → α → α
  setL : {α : Type} → List α → Nat → α → List α
  appL : {α : Type} → List α → List α → List α
  subL : {α : Type} → List α → Nat → Nat → List α
  repL : {α : Type} → Nat → α → List α
  putL : {α : Type} → List α → Nat → List α → List α
  bytesL : List UInt8 → List Int
  I64 : Int → Prop
  InR : IntKind → Int → Prop
  InB : Int → Nat → Prop
  InS : Int → Int → Nat → Prop
  QB : Int → Int → Prop
  SB : Int → Prop
  EqN : Nat → Nat → Prop
  Room : Nat → Nat → Prop
  RoomI : Int → Nat → Prop

def wrapS (k : IntKind) (n : Int) : Int := k.wrap n
def bitStd (op : BinOp) (k : IntKind) (x y : Int) : Int :=
  let a := BitVec.ofInt k.bits x
  let b := BitVec.ofInt k.bits y
  match op with
  | .and => k.wrap (a &&& b).toNat
  | .or => k.wrap (a ||| b).toNat
  | .xor => k.wrap (a ^^^ b).toNat
  | _ => k.wrap (a &&& ~~~b).toNat

/-- The usual operations. -/
def Alg.std : Alg where
  ltB x y := decide (x < y)
  leB x y := decide (x ≤ y)
  eqB x y := decide (x = y)
  eqS x y := decide (x = y)
  eqO x y := decide (x = y)
  notB x := !x
  iteB c x y := if c then x else y
  addI x y := x + y
  subI x y := x - y
  mulI x y := x * y
  divI x y := x / y
  modI x y := x % y
  wrapI k x := k.wrap x
  bitI := bitStd
  shlI k x y := k.wrap (x * 2 ^ (min y.toNat k.bits))
  shrI x y := x.fdiv (2 ^ (min y.toNat 64))
  natI n := n
  toN x := x.toNat
  addN x y := x + y
  subN x y := x - y
  minN x y := min x y
  lenL l := l.length
  getL l i d := l.getD i d
  setL l i v := l.set i v
  appL l k := l ++ k
  subL l lo n := (l.drop lo).take n
  repL n v := List.replicate n v
  putL l lo k := l.take lo ++ k ++ l.drop (lo + k.length)
  bytesL l := l.map fun b => (b.toNat : Int)
  I64 n := -9223372036854775808 ≤ n ∧ n ≤ 9223372036854775807
  InR k n := k.min ≤ n ∧ n ≤ k.max
  InB i n := 0 ≤ i ∧ i < (n : Int)
  InS lo hi n := 0 ≤ lo ∧ lo ≤ hi ∧ hi ≤ (n : Int)
  QB x y := 0 ≤ x ∧ 0 < y
  SB y := 0 ≤ y ∧ y < 64
  EqN x y := x = y
  Room n b := n * b ≤ 140737488355328
  RoomI n b := 0 ≤ n ∧ n * b ≤ 140737488355328

/-! ## Types, data, modes -/
inductive Ty where
  | int (k : IntKind) | bool | str | sl (e : Ty) | unit | pair (a b : Ty)
  deriving DecidableEq

@[reducible] def Ty.den : Ty → Type
  | .int _ => Int
  | .bool => Bool
  | .str => List Int
  | .sl e => List e.den
  | .unit => Unit
  | .pair a b => a.den × b.den

def Ty.dflt : (t : Ty) → t.den
  | .int _ => (0 : Int)
  | .bool => false
  | .str => ([] : List Int)
  | .sl _ => []
  | .unit => ()
  | .pair a b => (a.dflt, b.dflt)

def Ty.sz : Ty → Nat
  | .unit => 0
  | .pair a b => a.sz + b.sz
  | _ => 1

/-- No fewer bytes than an element has. -/
def Ty.bnd : Ty → Nat
  | .int _ => 8
  | .bool => 8
  | .str => 16
  | .sl _ => 24
  | .unit => 0
  | .pair a b => a.bnd + b.bnd

/-- Does a slice lie in it? -/
def Ty.hasSl : Ty → Bool
  | .sl _ => true
  | .pair a b => a.hasSl || b.hasSl
  | _ => false

def Ty.isAgg : Ty → Bool
  | .unit => true
  | .pair _ _ => true
  | _ => false

/-- A slice's mode: shared, without a claim, owned. -/
inductive Md where
  | sh | no | ow (m : Md) | pr (a b : Md)
  deriving DecidableEq

def Md.fst : Md → Md
  | .pr a _ => a
  | m => m
def Md.snd : Md → Md
  | .pr _ b => b
  | m => m
/-- Wholly of its own. -/
def Ty.deep : Ty → Md
  | .sl e => .ow e.deep
  | .pair a b => .pr a.deep b.deep
  | _ => .sh
/-- Nothing in it is shared or without a claim. -/
def own : Ty → Md → Bool
  | .sl e, .ow m => own e m
  | .sl _, _ => false
  | .pair a b, m => own a m.fst && own b m.snd
  | _, _ => true

inductive Stp where
  | fst | snd | idx (i : Nat)

inductive AV where
  | junk
  | lb (b : Bool)
  | dat (t : Ty) (x : t.den)
  | ref (e : Ty) (r ver : Nat) (p : List Stp) (lo n : Nat)
  | ptr (r ver : Nat) (p : List Stp)
  | bptr (r off : Nat)
  | dptr (t : Ty) (x : t.den)
  | nilS | nilP
  | agg (vs : List AV)
  | tup (vs : List AV)
  | clo (f : Nat) (caps : List AV)
  | mv (t : Ty) (m : Md) (x : t.den)
  | mp (t : Ty) (m : Md) (x : t.den)

/-- What the body itself has in memory: a variable's cells; a row that it alone owns. -/
inductive Root where
  | box (cs : List AV)
  | row (ver : Nat) (e : Ty) (m : Md) (xs : List e.den)

abbrev Heap := List (Option Root)
structure St where
  fr : List AV
  H : Heap

inductive Ex where
  | nrm | exit (id : Nat) | ret

/-- What a code comes to. -/
inductive Tr where
  | fin (e : Ex) (s : St)
  | need (p : Prop) (k : Tr)
  | br (b : Bool) (y n : Tr)
  | lp (body : St → Tr) (s : St) (k : Ex → St → Tr)
  | both (x y : Tr)
  | bad

def Tr.bind : Tr → (Ex → St → Tr) → Tr
  | .fin e s, f => f e s
  | .need p k, f => .need p (k.bind f)
  | .br b y n, f => .br b (y.bind f) (n.bind f)
  | .lp b s k, f => .lp b s fun e s => (k e s).bind f
  | .both x y, f => .both (x.bind f) (y.bind f)
  | .bad, _ => .bad

def sat : Tr → (Ex → St → Prop) → Prop
  | .fin e s, Q => Q e s
  | .need p k, Q => p ∧ sat k Q
  | .br b y n, Q => (b = true → sat y Q) ∧ (b = false → sat n Q)
  | .lp b s k, Q => ∃ (I : Nat → St → Prop), (∃ n, I n s) ∧ ∀ n s, I n s → sat (b s) fun e s' => match e with
    | .nrm => ∃ m, m < n ∧ I m s'
    | e => sat (k e s') Q
  | .both x y, Q => sat x Q ∧ sat y Q
  | .bad, _ => False

/-! ## Places in rows -/
def getAt (A : Alg) : (t : Ty) → Md → t.den → List Stp → Option ((t : Ty) × Md × t.den)
  | t, m, x, [] => some ⟨t, m, x⟩
  | .pair a _, m, x, .fst :: p => getAt A a m.fst x.1 p
  | .pair _ b, m, x, .snd :: p => getAt A b m.snd x.2 p
  | .sl e, .ow m, xs, .idx i :: p => getAt A e m (A.getL xs i e.dflt) p
  | _, _, _, _ => none

def castD (t t' : Ty) (x : t.den) : Option t'.den := if h : t = t' then some (h ▸ x) else none

/-- Data put at a place; the modes must stay. -/
def setAt (A : Alg) : (t : Ty) → Md → t.den → List Stp → (t' : Ty) → Md → t'.den → Option t.den
  | t, m, _, [], t', m', y => if m' = m then castD t' t y else none
  | .pair a _, m, x, .fst :: p, t', m', y =>
    match setAt A a m.fst x.1 p t' m' y with
    | some z => some (z, x.2)
    | none => none
  | .pair _ b, m, x, .snd :: p, t', m', y =>
    match setAt A b m.snd x.2 p t' m' y with
    | some z => some (x.1, z)
    | none => none
  | .sl e, .ow m, xs, .idx i :: p, t', m', y =>
    match setAt A e m (A.getL xs i e.dflt) p t' m' y with
    | some z => some (A.setL xs i z)
    | none => none
  | _, _, _, _, _, _, _ => none

/-- How many headers of slices a way passes. -/
def hops : List Stp → Nat
  | [] => 0
  | .idx _ :: p => hops p + 1
  | _ :: p => hops p

def hget (H : Heap) (r : Nat) : Option Root := H.getD r none

/-- A row, if what was known of the headers inside it still holds ('need': how many of them are asked, its own not counted). -/
def rowAt (H : Heap) (r ver need : Nat) : Option ((e : Ty) × Md × List e.den × Nat) :=
  match hget H r with
  | some (.row v e m xs) => if need = 0 then some ⟨e, m, xs, v⟩ else if v = ver then some ⟨e, m, xs, v⟩ else none
  | _ => none

def inK (k : IntKind) (n : Int) : Bool :=
  match k with
  | .i64 => decide (-9223372036854775808 ≤ n) && decide (n ≤ 9223372036854775807)
  | .u8 => decide (0 ≤ n) && decide (n ≤ 255)
  | .i32 => decide (-2147483648 ≤ n) && decide (n ≤ 2147483647)
  | .u64 => decide (0 ≤ n) && decide (n ≤ 18446744073709551615)
  | .i8 => decide (-128 ≤ n) && decide (n ≤ 127)
  | .i16 => decide (-32768 ≤ n) && decide (n ≤ 32767)
  | .u16 => decide (0 ≤ n) && decide (n ≤ 65535)
  | .u32 => decide (0 ≤ n) && decide (n ≤ 4294967295)
def cst1 (A : Alg) : Value → AV
  | .int k n => if inK k n then .dat (.int k) n else .junk
  | .bool b => .lb b
  | .string s => if decide (s.data.size ≤ 9223372036854775807) then .dat .str (A.bytesL s.data.toList) else .junk
  | .slice none 0 0 => .nilS
  | .pointer none => .nilP
  | _ => .junk
def cst (A : Alg) : Value → AV
  | .agg cs => if cs.toList.all (·.oneCell') then .agg (cs.toList.map (cst1 A)) else .junk
  | v => cst1 A v

def ev (A : Alg) (s : St) : Operand → AV
  | .tmp t => s.fr.getD t .junk
  | .const v => cst A v
  | .global _ => .junk
  | .func f => .clo f []

def St.put (s : St) (d : Option Nat) (v : AV) : St :=
  match d with
  | some d => { s with fr := s.fr.set d v }
  | none => s
def done (s : St) (d : Option Nat) (v : AV) : Tr := .fin .nrm (s.put d v)
def doneH (s : St) (H : Heap) (d : Option Nat) (v : AV) : Tr := .fin .nrm (St.put { s with H := H } d v)

/-- A typed value's cells. -/
def expl : (t : Ty) → t.den → List AV
  | .unit, _ => []
  | .pair a b, x => expl a x.1 ++ expl b x.2
  | t, x => [.dat t x]

def cellsOf : AV → List AV
  | .agg vs => vs
  | .dat t x => expl t x
  | .lb b => [.dat .bool b]
  | v => [v]

def ofCells (t : Ty) (l : List AV) : AV :=
  match t, l with
  | .unit, l => .agg l
  | .pair _ _, l => .agg l
  | _, [v] => v
  | _, _ => .junk

/-- What a load out of a row gives: the cells of a place. -/
def loadC (A : Alg) (r ver : Nat) : (t : Ty) → Md → t.den → List Stp → Option (List AV)
  | .unit, _, _, _ => some []
  | .pair a b, m, x, p =>
    match loadC A r ver a m.fst x.1 (p ++ [.fst]), loadC A r ver b m.snd x.2 (p ++ [.snd]) with
    | some l, some k => some (l ++ k)
    | _, _ => none
  | .sl e, .ow _, xs, p => some [.ref e r ver p 0 (A.lenL xs)]
  | .sl e, .sh, xs, _ => some [.dat (.sl e) xs]
  | .sl _, _, _, _ => none
  | t, _, x, _ => some [.dat t x]

/-- What a slice's place holds: its elements' mode, its elements. -/
def readRef (A : Alg) (H : Heap) (e : Ty) (r ver : Nat) (p : List Stp) : Option (Md × List e.den) :=
  match rowAt H r ver (hops p) with
  | some ⟨e', m', xs, _⟩ =>
    match getAt A (.sl e') (.ow m') xs p with
    | some ⟨t, .ow m, x⟩ => match castD t (.sl e) x with | some y => some (m, y) | none => none
    | _ => none
  | none => none

/-- A slice's elements, to be read now. -/
def asSl (A : Alg) (H : Heap) (e : Ty) : AV → Option (List e.den)
  | .dat t x => castD t (.sl e) x
  | .ref e' r ver p lo n =>
    match readRef A H e' r ver p with
    | some (_, y) => castD (.sl e') (.sl e) (A.subL y lo n)
    | none => none
  | .nilS => some []
  | _ => none

/-- Cells packed as a type's data, to be read now; what is left. -/
def packD (A : Alg) (H : Heap) : (t : Ty) → List AV → Option (t.den × List AV)
  | .unit, l => some ((), l)
  | .pair a b, l =>
    match packD A H a l with
    | some (x, l) => match packD A H b l with
      | some (y, l) => some ((x, y), l)
      | none => none
    | none => none
  | .sl e, v :: l => match asSl A H e v with | some x => some (x, l) | none => none
  | t, .dat t' x :: l => match castD t' t x with | some y => some (y, l) | none => none
  | .bool, .lb b :: l => some (b, l)
  | _, _ => none

/-- Is it a value that leads into no root? -/
def pureV : AV → Bool
  | .dat _ _ => true
  | .lb _ => true
  | .dptr _ _ => true
  | .nilS => true
  | .nilP => true
  | .clo _ [] => true
  | _ => false

/-- What came of packing cells that are handed over: mode, data, what is left, the heap, what is to hold. -/
structure Pk (t : Ty) where
  m : Md
  x : t.den
  l : List AV
  H : Heap
  p : List Prop

/-- nil's mode, where it is asked for. -/
def nilM (e : Ty) : Md → Md
  | .ow m => .ow m
  | .sh => .sh
  | _ => .ow e.deep

/-- Cells packed to be kept inside a row (or handed back): a row of its own moves in. 'h': the modes that are wished. -/
def packM (A : Alg) : (t : Ty) → Md → List AV → Heap → Option (Pk t)
  | .unit, _, l, H => some ⟨.sh, (), l, H, []⟩
  | .pair a b, h, l, H =>
    match packM A a h.fst l H with
    | some k => match packM A b h.snd k.l k.H with
      | some j => some ⟨.pr k.m j.m, (k.x, j.x), j.l, j.H, k.p ++ j.p⟩
      | none => none
    | none => none
  | .sl e, h, v :: l, H =>
    match v with
    | .dat t x => match castD t (.sl e) x with | some y => some ⟨.sh, y, l, H, []⟩ | none => none
    | .nilS => some ⟨nilM e h, [], l, H, []⟩
    | .ref _ r _ [] 0 n =>
      match hget H r with
      | some (.row _ e' m x) =>
        match castD (.sl e') (.sl e) x with
        | some y => some ⟨.ow m, y, l, H.set r none, [A.EqN n (A.lenL y)]⟩
        | none => none
      | _ => none
    | _ => none
  | t, _, .dat t' x :: l, H => match castD t' t x with | some y => some ⟨.sh, y, l, H, []⟩ | none => none
  | .bool, _, .lb b :: l, H => some ⟨.sh, b, l, H, []⟩
  | _, _, _, _ => none

/-- The same modes, as far as slices go. -/
def eqM : Ty → Md → Md → Bool
  | .sl _, m, n => decide (m = n)
  | .pair a b, m, n => eqM a m.fst n.fst && eqM b m.snd n.snd
  | _, _, _ => true
/-- Shared throughout. -/
def isSh : Ty → Md → Bool
  | .sl _, m => decide (m = .sh)
  | .pair a b, m => isSh a m.fst && isSh b m.snd
  | _, _ => true

def needs : List Prop → Tr → Tr
  | [], k => k
  | p :: ps, k => .need p (needs ps k)

def fldP : Nat → List Stp
  | 0 => [.fst]
  | n + 1 => .snd :: fldP n
def fldD : (t : Ty) → t.den → Nat → Option ((t : Ty) × t.den)
  | .pair a _, x, 0 => some ⟨a, x.1⟩
  | .pair _ b, x, n + 1 => fldD b x.2 n
  | _, _, _ => none
/-- A field's type and its first cell's place. -/
def fldT : Ty → Nat → Nat → Option (Ty × Nat)
  | .pair a _, 0, off => some (a, off)
  | .pair a b, n + 1, off => fldT b n (off + a.sz)
  | _, _, _ => none

/-! ## Calls -/
structure Ret where
  pre : List Prop
  outs : List ((t : Ty) × Md × t.den)
/-- The contracts; which functions have a body; are calls to hand back plain values alone? -/
structure Gam where
  g : Nat → List AV → Option Ret
  en : Nat → Bool
  q : Bool
/-- A type's data; a pointer type's element. -/
structure Env where
  ty : Nat → Option Ty
  pt : Nat → Option Ty

/-- An argument as data to be read; whether it leads into a root. -/
def argD (A : Alg) (H : Heap) (te pe : Option Ty) (v : AV) : Option (AV × Bool) :=
  match v with
  | .dat t x => some (.dat t x, false)
  | .lb b => some (.dat .bool b, false)
  | .dptr t x => some (.dptr t x, false)
  | .ref e r ver p lo n =>
    match readRef A H e r ver p with
    | some (_, y) => some (.dat (.sl e) (A.subL y lo n), true)
    | none => none
  | .ptr r ver p =>
    match rowAt H r ver (hops p - 1) with
    | some ⟨e, m, xs, _⟩ =>
      match getAt A (.sl e) (.ow m) xs p with
      | some ⟨t, _, x⟩ => some (.dptr t x, true)
      | none => none
    | none => none
  | .bptr r off =>
    match hget H r, pe with
    | some (.box cs), some t =>
      if off + t.sz ≤ cs.length then
        match packD A H t (cs.drop off) with
        | some (x, _) => some (.dptr t x, true)
        | none => none
      else none
    | _, _ => none
  | .agg vs =>
    match te with
    | some te =>
      if te.isAgg then
        match packD A H te vs with
        | some (x, []) => some (.dat te x, !vs.all pureV)
        | _ => none
      else none
    | none => none
  | .nilS =>
    match te with
    | some (.sl e) => some (.dat (.sl e) [], false)
    | _ => none
  | _ => none

/-- A captured variable: one cell. -/
def capD (A : Alg) (H : Heap) (v : AV) : Option AV :=
  match v with
  | .dptr t x => some (.dptr t x)
  | .bptr r off =>
    match hget H r with
    | some (.box cs) =>
      match cs.getD off .junk with
      | .dat t x => some (.dptr t x)
      | .lb b => some (.dptr .bool b)
      | .ref e r ver p lo n =>
        match readRef A H e r ver p with
        | some (_, y) => some (.dptr (.sl e) (A.subL y lo n))
        | none => none
      | _ => none
    | _ => none
  | _ => none
def capsD (A : Alg) (H : Heap) : List AV → Option (List AV)
  | [] => some []
  | v :: vs =>
    match capD A H v, capsD A H vs with
    | some a, some as' => some (a :: as')
    | _, _ => none

def argC (A : Alg) (H : Heap) (te pe : Option Ty) (v : AV) : Option (AV × Bool) :=
  match v with
  | .clo f cs => match capsD A H cs with | some k => some (.clo f k, !cs.all pureV) | none => none
  | v => argD A H te pe v

/-- Arguments as data; whether one leads into a root. -/
def argsD (A : Alg) (τ : Env) (s : St) : List Operand → List TypeId → Option (List AV × Bool)
  | [], _ => some ([], false)
  | o :: os, t :: ts =>
    match argC A s.H (τ.ty t) (τ.pt t) (ev A s o), argsD A τ s os ts with
    | some (a, b), some (r, c) => some (a :: r, b || c)
    | _, _ => none
  | _, _ => none

/-- A result's or a written variable's cells: owned rows become roots. -/
def layC (A : Alg) : (t : Ty) → Md → t.den → Heap → Option (List AV × Heap)
  | .unit, _, _, H => some ([], H)
  | .pair a b, m, x, H =>
    match layC A a m.fst x.1 H with
    | some (l, H) => match layC A b m.snd x.2 H with
      | some (k, H) => some (l ++ k, H)
      | none => none
    | none => none
  | .sl e, .ow m, xs, H => some ([.ref e H.length 0 [] 0 (A.lenL xs)], H ++ [some (.row 0 e m xs)])
  | .sl e, .sh, xs, H => some ([.dat (.sl e) xs], H)
  | .sl _, _, _, _ => none
  | t, _, x, H => some ([.dat t x], H)

def layV (A : Alg) (t : Ty) (m : Md) (x : t.den) (H : Heap) : Option (AV × Heap) :=
  match layC A t m x H with
  | some (l, H) => some (ofCells t l, H)
  | none => none

def layVs (A : Alg) : List ((t : Ty) × Md × t.den) → Heap → Option (List AV × Heap)
  | [], H => some ([], H)
  | ⟨t, m, x⟩ :: os, H =>
    match layV A t m x H with
    | some (v, H) => match layVs A os H with
      | some (vs, H) => some (v :: vs, H)
      | none => none
    | none => none

def putCs : List AV → Nat → List AV → List AV
  | cs, _, [] => cs
  | cs, off, v :: vs => putCs (cs.set off v) (off + 1) vs

def retV : List AV → AV
  | [v] => v
  | vs => .tup vs

/-- Where an argument leads into a root: nothing shared may come back. -/
def ownRet (r : Ret) : Bool := r.outs.all (fun o => own o.1 o.2.1)

def callOp (A : Alg) (τ : Env) (G : Gam) (d : Option Nat) (f : AV) (os : List Operand) (ts : List TypeId) (s : St) : Tr :=
  match f with
  | .clo f caps =>
    match argsD A τ s os ts, capsD A s.H caps with
    | some (al, lent), some cs =>
      match G.g f (al ++ cs) with
      | some r =>
        if (lent || !caps.all pureV) && !ownRet r then .bad else
        if G.q && !(G.en f && r.outs.all fun o => !o.1.hasSl) then .bad else
        match layVs A r.outs s.H with
        | some (vs, H) => needs r.pre (doneH s H d (retV vs))
        | none => .bad
      | none => .bad
    | _, _ => .bad
  | _ => .bad

/-! ## Operations -/
def binI (A : Alg) (s : St) (d : Option Nat) (op : BinOp) (k : IntKind) (x y : Int) : Tr :=
  match op with
  | .add => if k = .i64 then .need (A.I64 (A.addI x y)) (done s d (.dat (.int k) (A.addI x y))) else done s d (.dat (.int k) (A.wrapI k (A.addI x y)))
  | .sub => if k = .i64 then .need (A.I64 (A.subI x y)) (done s d (.dat (.int k) (A.subI x y))) else done s d (.dat (.int k) (A.wrapI k (A.subI x y)))
  | .mul => if k = .i64 then .need (A.I64 (A.mulI x y)) (done s d (.dat (.int k) (A.mulI x y))) else done s d (.dat (.int k) (A.wrapI k (A.mulI x y)))
  | .quo => .need (A.QB x y) (done s d (.dat (.int k) (A.divI x y)))
  | .rem => .need (A.QB x y) (done s d (.dat (.int k) (A.modI x y)))
  | .eql => done s d (.dat .bool (A.eqB x y))
  | .neq => done s d (.dat .bool (A.notB (A.eqB x y)))
  | .lss => done s d (.dat .bool (A.ltB x y))
  | .leq => done s d (.dat .bool (A.leB x y))
  | .gtr => done s d (.dat .bool (A.ltB y x))
  | .geq => done s d (.dat .bool (A.leB y x))
  | .and => done s d (.dat (.int k) (A.bitI .and k x y))
  | .or => done s d (.dat (.int k) (A.bitI .or k x y))
  | .xor => done s d (.dat (.int k) (A.bitI .xor k x y))
  | .shl => .need (A.SB y) (done s d (.dat (.int k) (A.shlI k x y)))
  | .shr => if k = .i64 then .need (A.SB y) (done s d (.dat (.int k) (A.shrI x y))) else .bad
  | _ => .bad

def binS (A : Alg) (s : St) (d : Option Nat) (op : BinOp) (x y : List Int) : Tr :=
  match op with
  | .eql => done s d (.dat .bool (A.eqS x y))
  | .neq => done s d (.dat .bool (A.notB (A.eqS x y)))
  | _ => .bad
def binB (A : Alg) (s : St) (d : Option Nat) (op : BinOp) (x y : Bool) : Tr :=
  match op with
  | .eql => done s d (.dat .bool (A.eqO x y))
  | .neq => done s d (.dat .bool (A.notB (A.eqO x y)))
  | _ => .bad

def asB : AV → Option Bool
  | .dat .bool b => some b
  | .lb b => some b
  | _ => none

def binV (A : Alg) (bt : Option Ty) (s : St) (d : Option Nat) (op : BinOp) (u v : AV) : Tr :=
  match u, v with
  | .dat (.int k) x, .dat (.int k') y => if k = k' then binI A s d op k x y else .bad
  | .dat .str x, .dat .str y => binS A s d op x y
  | u, v =>
    match bt, asB u, asB v with
    | some .bool, some x, some y => binB A s d op x y
    | _, _, _ => .bad

def loadOp (A : Alg) (s : St) (d : Option Nat) (t : Ty) : AV → Tr
  | .dptr t' x => if t' = t then done s d (.dat t' x) else .bad
  | .bptr r off =>
    match hget s.H r with
    | some (.box cs) => if off + t.sz ≤ cs.length then done s d (ofCells t ((cs.drop off).take t.sz)) else .bad
    | _ => .bad
  | .ptr r ver p =>
    match rowAt s.H r ver (hops p - 1) with
    | some ⟨e, m, xs, v⟩ =>
      match getAt A (.sl e) (.ow m) xs p with
      | some ⟨t', m', x⟩ =>
        if t' = t then
          match loadC A r v t' m' x p with
          | some l => done s d (ofCells t l)
          | none => .bad
        else .bad
      | none => .bad
    | none => .bad
  | _ => .bad

/-- A cell that a variable may hold. -/
def goodC : AV → Bool
  | .dat t _ => !t.isAgg
  | .lb _ | .ref .. | .ptr .. | .bptr .. | .dptr .. | .nilS | .nilP => true
  | _ => false
/-- Cells that fit a type. -/
def fitC : (t : Ty) → List AV → Option (List AV)
  | .unit, l => some l
  | .pair a b, l => match fitC a l with | some l => fitC b l | none => none
  | .sl e, v :: l => match v with
    | .dat (.sl e') _ => if e' = e then some l else none
    | .ref e' .. => if e' = e then some l else none
    | .nilS => some l
    | _ => none
  | t, .dat t' _ :: l => if t' = t then some l else none
  | .bool, .lb _ :: l => some l
  | _, _ => none

def storeOp (A : Alg) (s : St) (d : Option Nat) (t : Ty) (v : AV) : AV → Tr
  | .bptr r off =>
    match hget s.H r with
    | some (.box cs) =>
      match fitC t (cellsOf v) with
      | some [] => if off + t.sz ≤ cs.length then doneH s (s.H.set r (some (.box (putCs cs off (cellsOf v))))) d .junk else .bad
      | _ => .bad
    | _ => .bad
  | .ptr r ver p =>
    match rowAt s.H r ver (hops p - 1) with
    | some ⟨e, m, xs, _⟩ =>
      match getAt A (.sl e) (.ow m) xs p with
      | some ⟨_, m', _⟩ =>
        match packM A t m' (cellsOf v) s.H with
        | some k =>
          match k.l, hget k.H r with
          | [], some (.row v' ..) =>
            if eqM t k.m m' then
              match setAt A (.sl e) (.ow m) xs p t m' k.x with
              | some ys => needs k.p (doneH s (k.H.set r (some (.row (if e.hasSl then v' + 1 else v') e m ys))) d .junk)
              | none => .bad
            else .bad
          | _, _ => .bad
        | none => .bad
      | none => .bad
    | none => .bad
  | _ => .bad

def zeroC : Ty → List AV
  | .unit => []
  | .pair a b => zeroC a ++ zeroC b
  | .sl _ => [.nilS]
  | t => [.dat t t.dflt]

/-- Parts laid over zero cells. -/
def fillC (t : Ty) : List (Nat × AV) → List AV → Option (List AV)
  | [], cs => some cs
  | (i, v) :: ps, cs =>
    match fldT t i 0 with
    | some (f, off) => match fitC f (cellsOf v) with
      | some [] => fillC t ps (putCs cs off (cellsOf v))
      | _ => none
    | none => none

def joinM (e : Ty) (m n : Md) : Option Md := if e.hasSl then (if m = n then some m else none) else some .sh

/-- A literal's elements, packed one by one. -/
def packEs (A : Alg) (e : Ty) : List AV → Heap → Option (Md × List e.den × Heap × List Prop)
  | [], H => some (e.deep, [], H, [])
  | v :: vs, H =>
    match packM A e .no (cellsOf v) H with
    | some ⟨m, x, [], H, p⟩ =>
      match vs with
      | [] => some (m, [x], H, p)
      | _ :: _ =>
        match packEs A e vs H with
        | some (m', xs, H, q) => match joinM e m m' with
          | some m => some (m, x :: xs, H, p ++ q)
          | none => none
        | none => none
    | _ => none

/-- What is appended: mode, elements, the heap behind. -/
def srcM (A : Alg) (e : Ty) (H : Heap) : AV → Option (Md × List e.den × Heap × List Prop)
  | .nilS => some (e.deep, [], H, [])
  | .dat .str x => match castD (.sl (.int .u8)) (.sl e) x with | some y => some (.sh, y, H, []) | none => none
  | .dat t x => match castD t (.sl e) x with | some y => some (.sh, y, H, []) | none => none
  | .ref e' r ver p lo n =>
    match readRef A H e' r ver p with
    | some (m, y) =>
      match castD (.sl e') (.sl e) (A.subL y lo n) with
      | some z =>
        if e.hasSl && own e m then
          match p, lo with
          | [], 0 => some (m, z, H.set r none, [A.EqN n (A.lenL y)])
          | _, _ => none
        else if e.hasSl then (if m = .sh then some (.sh, z, H, []) else none)
        else some (.sh, z, H, [])
      | none => none
    | none => none
  | _ => none

def appOp (A : Alg) (s : St) (d : Option Nat) (e : Ty) (src : AV) : AV → Tr
  | .nilS =>
    match srcM A e s.H src with
    | some (m, ys, H, p) => needs p (.need (A.Room (A.lenL ys) e.bnd) (doneH s (H ++ [some (.row 0 e m ys)]) d (.ref e H.length 0 [] 0 (A.lenL ys))))
    | none => .bad
  | .ref _ r _ [] 0 n =>
    match hget s.H r with
    | some (.row _ e' m xs) =>
      match castD (.sl e') (.sl e) xs, srcM A e s.H src with
      | some xs, some (m', ys, H, p) =>
        match joinM e m m', hget H r with
        | some m, some _ => needs p (.need (A.EqN n (A.lenL xs)) (.need (A.Room (A.addN (A.lenL xs) (A.lenL ys)) e.bnd)
            (doneH s (H.set r none ++ [some (.row 0 e m (A.appL xs ys))]) d (.ref e H.length 0 [] 0 (A.addN (A.lenL xs) (A.lenL ys))))))
        | _, _ => .bad
      | _, _ => .bad
    | _ => .bad
  | _ => .bad

/-- A struct's value. -/
def isAggV : AV → Bool
  | .agg _ => true
  | .dat t _ => t.isAgg
  | _ => false

def intOf : AV → Option Int
  | .dat (.int _) n => some n
  | _ => none

def lenOp (A : Alg) (s : St) (d : Option Nat) (T : Ty) : AV → Tr
  | .dat t xs =>
    match t, xs with
    | .sl _, xs => match T with | .sl _ => done s d (.dat (.int .i64) (A.natI (A.lenL xs))) | _ => .bad
    | .str, xs => match T with | .str => done s d (.dat (.int .i64) (A.natI (A.lenL xs))) | _ => .bad
    | _, _ => .bad
  | .ref _ _ _ _ _ n => match T with | .sl _ => done s d (.dat (.int .i64) (A.natI n)) | _ => .bad
  | .nilS => match T with | .sl _ => done s d (.dat (.int .i64) 0) | _ => .bad
  | _ => .bad

def plusN (A : Alg) : Nat → Nat → Nat
  | 0, n => n
  | k + 1, n => A.addN (k + 1) n
theorem plusN_std (k n : Nat) : plusN Alg.std k n = k + n := by
  cases k <;> simp [plusN, Alg.std]

def idxOp (A : Alg) (s : St) (d : Option Nat) (e : Ty) (i : Int) : AV → Tr
  | .dat (.sl e') xs => if e' = e then .need (A.InB i (A.lenL xs)) (done s d (.dptr e' (A.getL xs (A.toN i) e'.dflt))) else .bad
  | .ref e' r ver p lo n =>
    if e' = e then
      match readRef A s.H e r ver p with
      | some _ => .need (A.InB i n) (done s d (.ptr r ver (p ++ [.idx (plusN A lo (A.toN i))])))
      | none => .bad
    else .bad
  | _ => .bad

/-- A cut: from 'lo' (none: 0) to 'hi' (none: the end). -/
def cutOp (A : Alg) (s : St) (d : Option Nat) (T : Ty) (lo hi : Option Int) : AV → Tr
  | .dat t xs =>
    match t, xs with
    | .sl e, xs =>
      if T = .sl e then
        let l := lo.getD 0
        let h := hi.getD (A.natI (A.lenL xs))
        .need (A.InS l h (A.lenL xs)) (done s d (.dat (.sl e) (A.subL xs (A.toN l) (A.subN (A.toN h) (A.toN l)))))
      else .bad
    | .str, xs =>
      if T = .str then
        let l := lo.getD 0
        let h := hi.getD (A.natI (A.lenL xs))
        .need (A.InS l h (A.lenL xs)) (done s d (.dat .str (A.subL xs (A.toN l) (A.subN (A.toN h) (A.toN l)))))
      else .bad
    | _, _ => .bad
  | .ref e r ver p b n =>
    if T = .sl e then
      let l := lo.getD 0
      let h := hi.getD (A.natI n)
      .need (A.InS l h n) (done s d (.ref e r ver p (A.addN b (A.toN l)) (A.subN (A.toN h) (A.toN l))))
    else .bad
  | _ => .bad

def cpOp (A : Alg) (s : St) (d : Option Nat) (e0 : Ty) (src : AV) : AV → Tr
  | .ref e r ver p lo n =>
    if e = e0 then match rowAt s.H r ver (hops p), readRef A s.H e r ver p, asSl A s.H e src with
    | some ⟨e', m', xs, _⟩, some (m, y), some z =>
      if e.hasSl then .bad else
      match setAt A (.sl e') (.ow m') xs p (.sl e) (.ow m) (A.putL y lo (A.subL z 0 (A.minN n (A.lenL z)))), hget s.H r with
      | some ys, some (.row v ..) => doneH s (s.H.set r (some (.row (if e'.hasSl then v + 1 else v) e' m' ys))) d (.dat (.int .i64) (A.natI (A.minN n (A.lenL z))))
      | _, _ => .bad
    | _, _, _ => .bad else .bad
  | _ => .bad

def optI (A : Alg) (s : St) : Option Operand → Option (Option Int)
  | none => some none
  | some o => match intOf (ev A s o) with | some n => some (some n) | none => none

def stepOp (A : Alg) (τ : Env) (G : Gam) (o : Oper) (s : St) : Tr :=
  let d := o.dst
  match o.op with
  | .move x => done s d (ev A s x)
  | .assign x => done s d (ev A s x)
  | .pick c a b =>
    match ev A s c with
    | .lb true => done s d (ev A s a)
    | .lb false => done s d (ev A s b)
    | .dat .bool c => match asB (ev A s a), asB (ev A s b) with
      | some x, some y => done s d (.dat .bool (A.iteB c x y))
      | _, _ => .bad
    | _ => .bad
  | .alloc t =>
    match τ.ty t with
    | some t => doneH s (s.H ++ [some (.box (zeroC t))]) d (.bptr s.H.length 0)
    | none => .bad
  | .box t v =>
    match τ.ty t with
    | some t => match fitC t (cellsOf (ev A s v)) with
      | some [] => doneH s (s.H ++ [some (.box (cellsOf (ev A s v)))]) d (.bptr s.H.length 0)
      | _ => .bad
    | none => .bad
  | .build t ps =>
    match τ.ty t with
    | some t =>
      if t.isAgg then
        match fillC t (ps.toList.map fun q => (q.1, ev A s q.2)) (zeroC t) with
        | some cs => done s d (.agg cs)
        | none => .bad
      else .bad
    | none => .bad
  | .buildSlice t len ps =>
    match τ.ty t with
    | some (.sl e) =>
      if ps.toList.map (·.1) = List.range len ∧ len * e.sz ≤ 16777216 then
        match packEs A e (ps.toList.map fun q => ev A s q.2) s.H with
        | some (m, xs, H, p) => needs p (doneH s (H ++ [some (.row 0 e m xs)]) d (.ref e H.length 0 [] 0 len))
        | none => .bad
      else .bad
    | _ => .bad
  | .load t a => match τ.ty t with | some t => loadOp A s d t (ev A s a) | none => .bad
  | .store t a v => match τ.ty t with | some t => storeOp A s d t (ev A s v) (ev A s a) | none => .bad
  | .nilCheck x =>
    match ev A s x with
    | .dptr t x => done s d (.dptr t x)
    | .ptr r ver p => done s d (.ptr r ver p)
    | .bptr r off => done s d (.bptr r off)
    | _ => .bad
  | .fieldAddr t x f =>
    match τ.ty t with
    | some T =>
      match fldT T f 0 with
      | some (_, k) =>
        match ev A s x with
        | .dptr T' y => if T' = T then (match fldD T' y f with | some ⟨g, z⟩ => done s d (.dptr g z) | none => .bad) else .bad
        | .ptr r ver p =>
          match rowAt s.H r ver (hops p - 1) with
          | some ⟨e, m, xs, _⟩ =>
            match getAt A (.sl e) (.ow m) xs p with
            | some ⟨T', _, _⟩ => if T' = T then done s d (.ptr r ver (p ++ fldP f)) else .bad
            | none => .bad
          | none => .bad
        | .bptr r off => done s d (.bptr r (off + k))
        | _ => .bad
      | none => .bad
    | none => .bad
  | .field t x f =>
    match τ.ty t with
    | some t => match fldT t f 0 with
      | some (g, k) => if isAggV (ev A s x) then (match fitC t (cellsOf (ev A s x)) with
        | some [] => done s d (ofCells g (((cellsOf (ev A s x)).drop k).take g.sz))
        | _ => .bad) else .bad
      | none => .bad
    | none => .bad
  | .indexAddr t x i => match τ.ty t, intOf (ev A s i) with | some (.sl e), some i => idxOp A s d e i (ev A s x) | _, _ => .bad
  | .index t x i =>
    match τ.ty t, ev A s x, intOf (ev A s i) with
    | some .str, .dat .str xs, some i => .need (A.InB i (A.lenL xs)) (done s d (.dat (.int .u8) (A.getL xs (A.toN i) 0)))
    | _, _, _ => .bad
  | .binOp op t x y _ => binV A (τ.ty t) s d op (ev A s x) (ev A s y)
  | .unOp op _ x =>
    match op, ev A s x with
    | .not, .lb b => done s d (.lb !b)
    | .not, .dat .bool b => done s d (.dat .bool (A.notB b))
    | _, _ => .bad
  | .convert t0 t x =>
    match τ.ty t0, τ.ty t with
    | some (.int _), some (.int k') => match ev A s x with
      | .dat (.int k) n => done s d (.dat (.int k') (if k = k' then n else if k = .u8 ∧ k' ≠ .i8 then n else A.wrapI k' n))
      | _ => .bad
    | some (.sl (.int .u8)), some .str => match srcM A (.int .u8) s.H (ev A s x) with
      | some (_, ys, _, []) => done s d (.dat .str ys)
      | _ => .bad
    | _, _ => .bad
  | .makeFunc (.func f) first caps => if first.size = 0 then done s d (.clo f (caps.toList.map (ev A s))) else .bad
  | .makeSlice t n c =>
    match τ.ty t, intOf (ev A s n), intOf (ev A s c) with
    | some (.sl e), some n, some c => .need (n = c) (.need (A.RoomI n e.bnd)
        (doneH s (s.H ++ [some (.row 0 e e.deep (A.repL (A.toN n) e.dflt))]) d (.ref e s.H.length 0 [] 0 (A.toN n))))
    | _, _, _ => .bad
  | .slice t x lo hi none =>
    match τ.ty t, optI A s lo, optI A s hi with
    | some T, some lo, some hi => cutOp A s d T lo hi (ev A s x)
    | _, _, _ => .bad
  | .extract x i =>
    match ev A s x with
    | .tup vs => match vs[i]? with | some v => done s d v | none => .bad
    | _ => .bad
  | .call c =>
    match c.callee with
    | .builtin .len =>
      match c.args.toList, c.argTypes.toList with
      | [x], [t] => match τ.ty t with | some T => lenOp A s d T (ev A s x) | none => .bad
      | _, _ => .bad
    | .builtin .append =>
      match c.args.toList, c.argTypes.toList with
      | [x, y], [t, t2] => match τ.ty t, τ.ty t2 with
        | some (.sl e), some (.sl _) => appOp A s d e (ev A s y) (ev A s x)
        | some (.sl e), some .str => appOp A s d e (ev A s y) (ev A s x)
        | _, _ => .bad
      | _, _ => .bad
    | .value f => callOp A τ G d (ev A s f) c.args.toList c.argTypes.toList s
    | _ => .bad
  | _ => .bad

/-- One operation of a region, its guard looked at; 'k': what follows. -/
def oneOp (A : Alg) (τ : Env) (G : Gam) (all : List Oper) (o : Oper) (s : St) (k : St → Tr) : Tr :=
  match o.guard with
  | none => (stepOp A τ G o s).bind fun _ s => k s
  | some (j, want) =>
    match (all[j]?).bind (·.dst) with
    | some t =>
      match s.fr.getD t .junk with
      | .lb b => if b = want then (stepOp A τ G o s).bind fun _ s => k s else k (s.put o.dst .junk)
      | .dat .bool b =>
        let y := (stepOp A τ G o (s.put (some t) (.lb want))).bind fun _ s => k s
        let n := k ((s.put (some t) (.lb (!want))).put o.dst .junk)
        if want then .br b y n else .br b n y
      | _ => .bad
    | none => .bad

def runOps (A : Alg) (τ : Env) (G : Gam) (all : List Oper) : List Oper → St → Tr
  | [], s => .fin .nrm s
  | o :: os, s => oneOp A τ G all o s fun s => runOps A τ G all os s

/-- Operations that leave memory as it is. -/
def quietK (o : Oper) : Bool :=
  match o.op with
  | .move _ | .assign _ | .pick .. | .build .. | .load .. | .nilCheck _ | .fieldAddr .. | .field .. | .indexAddr .. | .index .. | .binOp .. | .unOp .. | .convert .. | .extract .. => true
  | .makeFunc (.func _) .. => true
  | .slice _ _ _ _ none => true
  | .call c => match c.callee with
    | .builtin .len => true
    | .value _ => true
    | _ => false
  | _ => false
/-- Operations that do not look at memory. -/
def pureK (o : Oper) : Bool :=
  match o.op with
  | .move _ | .assign _ | .pick .. | .build .. | .nilCheck _ | .fieldAddr .. | .field .. | .indexAddr .. | .index .. | .binOp .. | .unOp .. | .extract .. => true
  | .makeFunc (.func _) .. => true
  | .slice _ _ _ _ none => true
  | .call c => match c.callee with
    | .builtin .len => true
    | _ => false
  | _ => false

def allT : List Tr → Tr
  | [] => .bad
  | [t] => t
  | t :: ts => .both t (allT ts)

/-- Whatever order is drawn: what looks at no memory first, else all that may come up. -/
def runAny (A : Alg) (τ : Env) (G : Gam) (ops : Array Oper) : Nat → List Bool → St → Tr
  | 0, l, s => match Region.ready .any ops l.toArray with
    | [] => .fin .nrm s
    | _ => .bad
  | n + 1, l, s => match Region.ready .any ops l.toArray with
    | [] => .fin .nrm s
    | r => match r.find? (fun i => (match ops[i]? with | some o => pureK o && o.guard.isNone | none => false) && Region.free .any ops l.toArray i) with
      | some i => match ops[i]? with
        | some o => oneOp A τ G ops.toList o s fun s => runAny A τ G ops n (l.set i true) s
        | none => .bad
      | none => allT (r.map fun i => match ops[i]? with
        | some o => oneOp A τ G ops.toList o s fun s => runAny A τ G ops n (l.set i true) s
        | none => .bad)

/-- 'O': which regions that draw their order are walked in their own order (all their operations leaving memory as it is). -/
def run (A : Alg) (τ : Env) (G : Gam) (O : Nat → Bool) : Code → St → Tr
  | .skip, s => .fin .nrm s
  | .region _ ops false, s => runOps A τ G ops.toList ops.toList s
  | .region id ops true, s =>
    if O id then
      (if Region.lexB .any ops && ops.toList.all quietK then runOps A τ { G with q := true } ops.toList ops.toList s else .bad)
    else (if Region.noSelect ops then runAny A τ G ops ops.size (List.replicate ops.size false) s else .bad)
  | .seq a b, s => (run A τ G O a s).bind fun e s => match e with | .nrm => run A τ G O b s | e => .fin e s
  | .cond c x y, s =>
    match ev A s c with
    | .lb true => run A τ G O x s
    | .lb false => run A τ G O y s
    | .dat .bool b => .br b (run A τ G O x s) (run A τ G O y s)
    | _ => .bad
  | .block id c, s => (run A τ G O c s).bind fun e s => match e with
    | .exit j => if j = id then .fin .nrm s else .fin (.exit j) s
    | e => .fin e s
  | .loop c, s => .lp (run A τ G O c) s fun e s => .fin e s
  | .exit id, s => .fin (.exit id) s
  | .ret, s => .fin .ret s
  | _, _ => .bad

/-! ## Results -/
/-- A value that may lie in cells. -/
def okc : AV → Bool
  | .dat .. | .lb _ | .ref .. | .nilS => true
  | _ => false
/-- A result's cells. -/
def resR (τ : Env) (s : St) (t : Ty) : ResultVar → Option (List AV)
  | .tmp i => if t.isAgg = isAggV (s.fr.getD i .junk) then some (cellsOf (s.fr.getD i .junk)) else none
  | .cell a ti =>
    if τ.ty ti = some t then
      match s.fr.getD a .junk with
      | .bptr r off =>
        match hget s.H r with
        | some (.box cs) => if off + t.sz ≤ cs.length then some ((cs.drop off).take t.sz) else none
        | _ => none
      | _ => none
    else none
def resC (τ : Env) (s : St) (t : Ty) (v : ResultVar) : Option (List AV) :=
  match resR τ s t v with
  | some l => if l.length = t.sz ∧ l.all okc then some l else none
  | none => none
/-- Results handed back as they were promised: what is to hold. -/
def exitM (A : Alg) (τ : Env) (s : St) : List ResultVar → List ((t : Ty) × Md × t.den) → Heap → Option (List Prop)
  | [], [], _ => some []
  | v :: vs, ⟨t, m, x⟩ :: os, H =>
    match resC τ s t v with
    | some l =>
      match packM A t m l H with
      | some k =>
        match k.l with
        | [] => if eqM t k.m m then
            match exitM A τ s vs os k.H with
            | some q => some (k.p ++ (k.x = x) :: q)
            | none => none
          else none
        | _ => none
      | none => none
    | none => none
  | _, _, _ => none
/-- Results that are shared throughout. -/
def exitD (A : Alg) (τ : Env) (s : St) : List ResultVar → List ((t : Ty) × Md × t.den) → Option (List Prop)
  | [], [] => some []
  | v :: vs, ⟨t, m, x⟩ :: os =>
    if isSh t m then
      match resC τ s t v with
      | some l =>
        match packD A s.H t l with
        | some (y, []) =>
          match exitD A τ s vs os with
          | some q => some ((y = x) :: q)
          | none => none
        | _ => none
      | none => none
    else none
  | _, _ => none
def exitT (A : Alg) (τ : Env) (s : St) (vs : List ResultVar) (os : List ((t : Ty) × Md × t.den)) : Option (List Prop) :=
  if os.all fun o => isSh o.1 o.2.1 then exitD A τ s vs os else exitM A τ s vs os s.H

end Go.Vee
