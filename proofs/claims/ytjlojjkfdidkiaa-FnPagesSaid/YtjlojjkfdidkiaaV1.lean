/-
  The evaluator of bodies over abstract values, and what it is to own memory, are defined here; no statement of the seat is proved.
-/
import Derived.Orders
import Derived.Still
import Derived.Deep.Quiet
import Derived.Laws.AppendOwn
import Derived.Laws.OwnMore
import Derived.Lib.AppendStr
import Derived.Deep.Draws
import Derived.Below
namespace Go.Vee

/-! ## Scalar operations, behind a record: a variable while a body is computed -/
structure Alg where
  ltB : Int → Int → Bool
  leB : Int → Int → Bool
  bEq : Int → Int → Bool
  eqS : List Int → List Int → Bool
  eqO : Bool → Bool → Bool
  notB : Bool → Bool
  iteB : Bool → Bool → Bool → Bool
  addI : Int → Int → Int
  subI : Int → Int → Int
  mulI : Int → Int → Int
  divI : Int → Int → Int
  modI : Int → Int → Int
  wrapI : IntKind → Int → Int
  bitI : BinOp → IntKind → Int → Int → Int
  shlI : IntKind → Int → Int → Int
  shrI : IntKind → Int → Int → Int
  natI : Nat → Int
  toN : Int → Nat
  addN : Nat → Nat → Nat
  subN : Nat → Nat → Nat
  minN : Nat → Nat → Nat
  lenL : {α : Type} → List α → Nat
  getL : {α : Type} → List α → Nat → α → α
  setL : {α : Type} → List α → Nat → α → List α
  appL : {α : Type} → List α → List α → List α
  subL : {α : Type} → List α → Nat → Nat → List α
  repL : {α : Type} → Nat → α → List α
  putL : {α : Type} → List α → Nat → List α → List α
  bytesL : List UInt8 → List Int
  I64 : Int → Prop
  InR : IntKind → Int → Prop
  InB : Int → Nat → Prop
  InS : Int → Int → Nat → Prop
  QB : Int → Int → Prop
  SB : Int → Prop
  EqN : Nat → Nat → Prop
  Some1 : Nat → Prop
  Room : Nat → Nat → Prop
  RoomI : Int → Nat → Prop

def bitStd (op : BinOp) (k : IntKind) (x y : Int) : Int :=
  let a := BitVec.ofInt k.bits x
  let b := BitVec.ofInt k.bits y
  match op with
  | .and => k.wrap (a &&& b).toNat
  | .or => k.wrap (a ||| b).toNat
  | .xor => k.wrap (a ^^^ b).toNat
  | _ => k.wrap (a &&& ~~~b).toNat

/-- The usual operations. -/
def Alg.std : Alg where
  ltB x y := decide (x < y)
  leB x y := decide (x ≤ y)
  bEq x y := decide (x = y)
  eqS x y := decide (x = y)
  eqO x y := decide (x = y)
  notB x := !x
  iteB c x y := if c then x else y
  addI x y := x + y
  subI x y := x - y
  mulI x y := x * y
  divI x y := x / y
  modI x y := x % y
  wrapI k x := k.wrap x
  bitI := bitStd
  shlI k x y := k.wrap (x * 2 ^ (min y.toNat k.bits))
  shrI k x y := x.fdiv (2 ^ (min y.toNat k.bits))
  natI n := n
  toN x := x.toNat
  addN x y := x + y
  subN x y := x - y
  minN x y := min x y
  lenL l := l.length
  getL l i d := l.getD i d
  setL l i v := l.set i v
  appL l k := l ++ k
  subL l lo n := (l.drop lo).take n
  repL n v := List.replicate n v
  putL l lo k := l.take lo ++ k ++ l.drop (lo + k.length)
  bytesL l := l.map fun b => (b.toNat : Int)
  I64 n := -9223372036854775808 ≤ n ∧ n ≤ 9223372036854775807
  InR k n := k.min ≤ n ∧ n ≤ k.max
  InB i n := 0 ≤ i ∧ i < (n : Int)
  InS lo hi n := 0 ≤ lo ∧ lo ≤ hi ∧ hi ≤ (n : Int)
  QB x y := 0 ≤ x ∧ 0 < y
  SB y := 0 ≤ y ∧ y < 64
  EqN x y := x = y
  Some1 x := 0 < x
  Room n b := n * b ≤ 140737488355328
  RoomI n b := 0 ≤ n ∧ n * b ≤ 140737488355328

/-! ## Types, data, modes -/
inductive Ty where
  | int (k : IntKind) | bool | str | sl (e : Ty) | unit | pair (a b : Ty)
  deriving DecidableEq

@[reducible] def Ty.den : Ty → Type
  | .int _ => Int
  | .bool => Bool
  | .str => List Int
  | .sl e => List e.den
  | .unit => Unit
  | .pair a b => a.den × b.den

def Ty.dflt : (t : Ty) → t.den
  | .int _ => (0 : Int)
  | .bool => false
  | .str => ([] : List Int)
  | .sl _ => []
  | .unit => ()
  | .pair a b => (a.dflt, b.dflt)

def Ty.sz : Ty → Nat
  | .unit => 0
  | .pair a b => a.sz + b.sz
  | _ => 1

/-- No fewer bytes than an element has. -/
def Ty.bnd : Ty → Nat
  | .int _ => 8
  | .bool => 8
  | .str => 16
  | .sl _ => 24
  | .unit => 0
  | .pair a b => a.bnd + b.bnd

/-- Does a slice lie in it? -/
def Ty.hasSl : Ty → Bool
  | .sl _ => true
  | .pair a b => a.hasSl || b.hasSl
  | _ => false

def Ty.isAgg : Ty → Bool
  | .unit => true
  | .pair _ _ => true
  | _ => false

/-- A slice's mode: shared, without a claim, owned. -/
inductive Md where
  | sh | no | ow (m : Md) | pr (a b : Md)
  /-- Of a result: a pointer to a variable made by the call. -/
  | np (m : Md)
  deriving DecidableEq
def npOf : Md → Option Md
  | .np m => some m
  | _ => none

def Md.fst : Md → Md
  | .pr a _ => a
  | m => m
def Md.snd : Md → Md
  | .pr _ b => b
  | m => m
/-- Wholly of its own. -/
def Ty.deep : Ty → Md
  | .sl e => .ow e.deep
  | .pair a b => .pr a.deep b.deep
  | _ => .sh
/-- Nothing in it is shared or without a claim. -/
def own : Ty → Md → Bool
  | .sl e, .ow m => own e m
  | .sl _, _ => false
  | .pair a b, m => own a m.fst && own b m.snd
  | _, _ => true

/-- Nothing in it may have gone. -/
def okM : Ty → Md → Bool
  | .sl _, .no => false
  | .sl e, .ow m => okM e m
  | .pair a b, m => okM a m.fst && okM b m.snd
  | _, _ => true
/-- The same, but that slices may have gone. -/
def weakM : Ty → Md → Md → Bool
  | .sl e, m, n => decide (m = n) || (decide (n = .no) && decide (m = .ow e.deep))
  | .pair a b, m, n => weakM a m.fst n.fst && weakM b m.snd n.snd
  | _, _, _ => true

inductive Stp where
  | fst | snd | idx (i : Nat)

inductive AV where
  | junk
  | lb (b : Bool)
  | dat (t : Ty) (x : t.den)
  | ref (e : Ty) (r ver : Nat) (p : List Stp) (lo n : Nat)
  | ptr (r ver : Nat) (p : List Stp)
  | bptr (r off : Nat)
  | dptr (t : Ty) (x : t.den)
  | nilS | nilP
  | agg (vs : List AV)
  | tup (vs : List AV)
  | clo (f : Nat) (caps : List AV)
  | mv (t : Ty) (m : Md) (x : t.den)
  | mp (t : Ty) (m : Md) (x : t.den)

/-- What the body itself has in memory: a variable's cells; a row that it alone owns. -/
inductive Root where
  | box (cs : List AV)
  | row (ver : Nat) (e : Ty) (m : Md) (xs : List e.den)
  /-- What came in as arguments that the call may write. -/
  | gh (cs : List AV)

abbrev Heap := List (Option Root)
structure St where
  fr : List AV
  H : Heap

inductive Ex where
  | nrm | exit (id : Nat) | ret

/-- What a code comes to. -/
inductive Tr where
  | fin (e : Ex) (s : St)
  | need (p : Prop) (k : Tr)
  | br (b : Bool) (y n : Tr)
  | lp (body : St → Tr) (s : St) (k : Ex → St → Tr)
  | both (x y : Tr)
  | hyp (p : Prop) (k : Tr)
  /-- Any value: what a call may hand back. -/
  | ex (t : Ty) (k : t.den → Tr)
  | bad

def Tr.bind : Tr → (Ex → St → Tr) → Tr
  | .fin e s, f => f e s
  | .need p k, f => .need p (k.bind f)
  | .br b y n, f => .br b (y.bind f) (n.bind f)
  | .lp b s k, f => .lp b s fun e s => (k e s).bind f
  | .both x y, f => .both (x.bind f) (y.bind f)
  | .hyp p k, f => .hyp p (k.bind f)
  | .ex t k, f => .ex t fun y => (k y).bind f
  | .bad, _ => .bad

def sat : Tr → (Ex → St → Prop) → Prop
  | .fin e s, Q => Q e s
  | .need p k, Q => p ∧ sat k Q
  | .br b y n, Q => (b = true → sat y Q) ∧ (b = false → sat n Q)
  | .lp b s k, Q => ∃ (I : Nat → St → Prop), (∃ n, I n s) ∧ ∀ n s, I n s → sat (b s) fun e s' => match e with
    | .nrm => ∃ m, m < n ∧ I m s'
    | e => sat (k e s') Q
  | .both x y, Q => sat x Q ∧ sat y Q
  | .hyp p k, Q => p → sat k Q
  | .ex _ k, Q => ∀ y, sat (k y) Q
  | .bad, _ => False

/-! ## Places in rows -/
def getAt (A : Alg) : (t : Ty) → Md → t.den → List Stp → Option ((t : Ty) × Md × t.den)
  | t, m, x, [] => some ⟨t, m, x⟩
  | .pair a _, m, x, .fst :: p => getAt A a m.fst x.1 p
  | .pair _ b, m, x, .snd :: p => getAt A b m.snd x.2 p
  | .sl e, .ow m, xs, .idx i :: p => getAt A e m (A.getL xs i e.dflt) p
  | _, _, _, _ => none

def castD (t t' : Ty) (x : t.den) : Option t'.den := if h : t = t' then some (h ▸ x) else none

/-- Data put at a place; the modes must stay. -/
def setAt (A : Alg) : (t : Ty) → Md → t.den → List Stp → (t' : Ty) → Md → t'.den → Option t.den
  | t, m, _, [], t', m', y => if m' = m then castD t' t y else none
  | .pair a _, m, x, .fst :: p, t', m', y =>
    match setAt A a m.fst x.1 p t' m' y with
    | some z => some (z, x.2)
    | none => none
  | .pair _ b, m, x, .snd :: p, t', m', y =>
    match setAt A b m.snd x.2 p t' m' y with
    | some z => some (x.1, z)
    | none => none
  | .sl e, .ow m, xs, .idx i :: p, t', m', y =>
    match setAt A e m (A.getL xs i e.dflt) p t' m' y with
    | some z => some (A.setL xs i z)
    | none => none
  | _, _, _, _, _, _, _ => none

/-- How many headers of slices a way passes. -/
def hops : List Stp → Nat
  | [] => 0
  | .idx _ :: p => hops p + 1
  | _ :: p => hops p

def hget (H : Heap) (r : Nat) : Option Root := H.getD r none

/-- A row, if what was known of the headers inside it still holds ('need': how many of them are asked, its own not counted). -/
def rowAt (H : Heap) (r ver need : Nat) : Option ((e : Ty) × Md × List e.den × Nat) :=
  match hget H r with
  | some (.row v e m xs) => if need = 0 then some ⟨e, m, xs, v⟩ else if v = ver then (match okM e m with | true => some ⟨e, m, xs, v⟩ | false => none) else none
  | _ => none

def inK (k : IntKind) (n : Int) : Bool :=
  match k with
  | .i64 => decide (-9223372036854775808 ≤ n) && decide (n ≤ 9223372036854775807)
  | .u8 => decide (0 ≤ n) && decide (n ≤ 255)
  | .i32 => decide (-2147483648 ≤ n) && decide (n ≤ 2147483647)
  | .u64 => decide (0 ≤ n) && decide (n ≤ 18446744073709551615)
  | .i8 => decide (-128 ≤ n) && decide (n ≤ 127)
  | .i16 => decide (-32768 ≤ n) && decide (n ≤ 32767)
  | .u16 => decide (0 ≤ n) && decide (n ≤ 65535)
  | .u32 => decide (0 ≤ n) && decide (n ≤ 4294967295)
def cst1 (A : Alg) : Value → AV
  | .int k n => if inK k n then .dat (.int k) n else .junk
  | .bool b => .lb b
  | .string s => if decide (s.data.size ≤ 9223372036854775807) then .dat .str (A.bytesL s.data.toList) else .junk
  | .slice none 0 0 => .nilS
  | .pointer none => .nilP
  | _ => .junk
def cst (A : Alg) : Value → AV
  | .agg cs => if cs.toList.all (·.oneCell') then .agg (cs.toList.map (cst1 A)) else .junk
  | v => cst1 A v

def ev (A : Alg) (s : St) : Operand → AV
  | .tmp t => s.fr.getD t .junk
  | .const v => cst A v
  | .global _ => .junk
  | .func f => .clo f []

def St.put (s : St) (d : Option Nat) (v : AV) : St :=
  match d with
  | some d => { s with fr := s.fr.set d v }
  | none => s
def done (s : St) (d : Option Nat) (v : AV) : Tr := .fin .nrm (s.put d v)
def doneH (s : St) (H : Heap) (d : Option Nat) (v : AV) : Tr := .fin .nrm (St.put { s with H := H } d v)

/-- A typed value's cells. -/
def expl : (t : Ty) → t.den → List AV
  | .unit, _ => []
  | .pair a b, x => expl a x.1 ++ expl b x.2
  | t, x => [.dat t x]

def cellsOf : AV → List AV
  | .agg vs => vs
  | .dat t x => expl t x
  | .lb b => [.dat .bool b]
  | v => [v]

def ofCells (t : Ty) (l : List AV) : AV :=
  match t, l with
  | .unit, l => .agg l
  | .pair _ _, l => .agg l
  | _, [v] => v
  | _, _ => .junk

/-- What a load out of a row gives: the cells of a place. -/
def loadC (A : Alg) (r ver : Nat) : (t : Ty) → Md → t.den → List Stp → Option (List AV)
  | .unit, _, _, _ => some []
  | .pair a b, m, x, p =>
    match loadC A r ver a m.fst x.1 (p ++ [.fst]), loadC A r ver b m.snd x.2 (p ++ [.snd]) with
    | some l, some k => some (l ++ k)
    | _, _ => none
  | .sl e, .ow _, xs, p => some [.ref e r ver p 0 (A.lenL xs)]
  | .sl e, .sh, xs, _ => some [.dat (.sl e) xs]
  | .sl _, _, _, _ => none
  | t, _, x, _ => some [.dat t x]

/-- What may have gone, as it is while it is there. -/
def unM : Ty → Md → Md
  | .sl e, .no => .ow e.deep
  | .pair a b, m => .pr (unM a m.fst) (unM b m.snd)
  | _, m => m
/-- Nothing is owned for good. -/
def noOw : Ty → Md → Bool
  | .sl _, .ow _ => false
  | .pair a b, m => noOw a m.fst && noOw b m.snd
  | _, _ => true
/-- What is left where slices have been taken out. -/
def empC : (t : Ty) → Md → t.den → t.den
  | .sl _, .no, _ => []
  | .pair a b, m, x => (empC a m.fst x.1, empC b m.snd x.2)
  | _, _, x => x
/-- Slices that may have gone are there. -/
def aliveP (A : Alg) : (t : Ty) → Md → t.den → List Prop
  | .sl _, .no, x => [A.Some1 (A.lenL x)]
  | .pair a b, m, x => aliveP A a m.fst x.1 ++ aliveP A b m.snd x.2
  | _, _, _ => []

/-- What a slice's place holds: its elements' mode, its elements. -/
def readRef0 (A : Alg) (H : Heap) (e : Ty) (r ver : Nat) (p : List Stp) : Option (Md × List e.den) :=
  match rowAt H r ver (hops p) with
  | some ⟨e', m', xs, _⟩ =>
    match getAt A (.sl e') (.ow m') xs p with
    | some ⟨t, .ow m, x⟩ => match castD t (.sl e) x with | some y => some (m, y) | none => none
    | _ => none
  | none => none

/-- Likewise, if nothing in it may have gone. -/
def readRef (A : Alg) (H : Heap) (e : Ty) (r ver : Nat) (p : List Stp) : Option (Md × List e.den) :=
  match readRef0 A H e r ver p with
  | some (m, y) => match okM e m with | true => some (m, y) | false => none
  | none => none

/-- A slice's elements, to be read now. -/
def asSl (A : Alg) (H : Heap) (e : Ty) : AV → Option (List e.den)
  | .dat t x => castD t (.sl e) x
  | .ref e' r ver p lo n =>
    match readRef A H e' r ver p with
    | some (_, y) => castD (.sl e') (.sl e) (A.subL y lo n)
    | none => none
  | .nilS => some []
  | _ => none

/-- Cells packed as a type's data, to be read now; what is left. -/
def packD (A : Alg) (H : Heap) : (t : Ty) → List AV → Option (t.den × List AV)
  | .unit, l => some ((), l)
  | .pair a b, l =>
    match packD A H a l with
    | some (x, l) => match packD A H b l with
      | some (y, l) => some ((x, y), l)
      | none => none
    | none => none
  | .sl e, v :: l => match asSl A H e v with | some x => some (x, l) | none => none
  | t, .dat t' x :: l => match castD t' t x with | some y => some (y, l) | none => none
  | .bool, .lb b :: l => some (b, l)
  | _, _ => none

/-- Is it a value that leads into no root? -/
def pureV : AV → Bool
  | .dat _ _ => true
  | .lb _ => true
  | .dptr _ _ => true
  | .nilS => true
  | .nilP => true
  | .clo _ [] => true
  | _ => false

/-- What came of packing cells that are handed over: mode, data, what is left, the heap, what is to hold. -/
structure Pk (t : Ty) where
  m : Md
  x : t.den
  l : List AV
  H : Heap
  p : List Prop

/-- nil's mode, where it is asked for. -/
def nilM (e : Ty) : Md → Md
  | .ow m => .ow m
  | .sh => .sh
  | _ => .ow e.deep

/-- Cells packed to be kept inside a row (or handed back): a row of its own moves in. 'h': the modes that are wished. -/
def packM (A : Alg) : (t : Ty) → Md → List AV → Heap → Option (Pk t)
  | .unit, _, l, H => some ⟨.sh, (), l, H, []⟩
  | .pair a b, h, l, H =>
    match packM A a h.fst l H with
    | some k => match packM A b h.snd k.l k.H with
      | some j => some ⟨.pr k.m j.m, (k.x, j.x), j.l, j.H, k.p ++ j.p⟩
      | none => none
    | none => none
  | .sl e, h, v :: l, H =>
    match v with
    | .dat t x => match castD t (.sl e) x with | some y => some ⟨.sh, y, l, H, []⟩ | none => none
    | .nilS => some ⟨nilM e h, [], l, H, []⟩
    | .ref _ r _ [] 0 n =>
      match hget H r with
      | some (.row _ e' m x) =>
        match castD (.sl e') (.sl e) x with
        | some y => some ⟨.ow m, y, l, H.set r none, [A.EqN n (A.lenL y)]⟩
        | none => none
      | _ => none
    | _ => none
  | t, _, .dat t' x :: l, H => match castD t' t x with | some y => some ⟨.sh, y, l, H, []⟩ | none => none
  | .bool, _, .lb b :: l, H => some ⟨.sh, b, l, H, []⟩
  | _, _, _, _ => none

/-- The same modes, as far as slices go. -/
def eqM : Ty → Md → Md → Bool
  | .sl _, m, n => decide (m = n)
  | .pair a b, m, n => eqM a m.fst n.fst && eqM b m.snd n.snd
  | _, _, _ => true
/-- Shared throughout. -/
def isSh : Ty → Md → Bool
  | .sl _, m => decide (m = .sh)
  | .pair a b, m => isSh a m.fst && isSh b m.snd
  | _, _ => true

def needs : List Prop → Tr → Tr
  | [], k => k
  | p :: ps, k => .need p (needs ps k)
def hyps : List Prop → Tr → Tr
  | [], k => k
  | p :: ps, k => .hyp p (hyps ps k)

def fldP : Nat → List Stp
  | 0 => [.fst]
  | n + 1 => .snd :: fldP n
def fldD : (t : Ty) → t.den → Nat → Option ((t : Ty) × t.den)
  | .pair a _, x, 0 => some ⟨a, x.1⟩
  | .pair _ b, x, n + 1 => fldD b x.2 n
  | _, _, _ => none
/-- A field's type and its first cell's place. -/
def fldT : Ty → Nat → Nat → Option (Ty × Nat)
  | .pair a _, 0, off => some (a, off)
  | .pair a b, n + 1, off => fldT b n (off + a.sz)
  | _, _, _ => none

/-- A struct's value. -/
def isAggV : AV → Bool
  | .agg _ => true
  | .dat t _ => t.isAgg
  | _ => false


/-! ## Calls -/
structure Ret where
  pre : List Prop
  outs : List ((t : Ty) × Md × t.den)
  /-- What has become of the arguments that may be written (mv, mp; anything else: given up). -/
  backs : List AV := []
/-- What a call comes to: one thing, or any of which something is known. -/
inductive RX where
  | one (r : Ret)
  | any (t : Ty) (pre : List Prop) (p : t.den → List Prop) (r : t.den → Ret)
/-- The contracts; which functions have a body; are calls to hand back plain values alone? which first arguments may be written, with what modes. -/
structure Gam where
  g : Nat → List AV → Option RX
  en : Nat → Bool
  q : Bool
  mu : Nat → List Md
  /-- Is nil among the arguments told from an empty slice? -/
  kn : Nat → Bool := fun _ => false
  /-- How many arguments that are data stand ahead of those that may be written (which are then the last). -/
  rt : Nat → Nat := fun _ => 0
/-- A type's data; a pointer type's element. -/
structure Env where
  ty : Nat → Option Ty
  pt : Nat → Option Ty
  /-- Struct types of plain fields that may be compared. -/
  eq : Nat → Bool := fun _ => false

/-- An argument as data to be read; whether it leads into a root. -/
def argD (A : Alg) (H : Heap) (te pe : Option Ty) (v : AV) : Option (AV × Bool) :=
  match v with
  | .dat t x => some (.dat t x, false)
  | .lb b => some (.dat .bool b, false)
  | .dptr t x => some (.dptr t x, false)
  | .ref e r ver p lo n =>
    match readRef A H e r ver p with
    | some (_, y) => some (.dat (.sl e) (A.subL y lo n), true)
    | none => none
  | .ptr r ver p =>
    match rowAt H r ver (hops p - 1) with
    | some ⟨e, m, xs, _⟩ =>
      match getAt A (.sl e) (.ow m) xs p with
      | some ⟨t, m', x⟩ => match okM t m' with | true => some (.dptr t x, true) | false => none
      | none => none
    | none => none
  | .bptr r off =>
    match hget H r, (match pe with | some t => some t | none => te) with
    | some (.box cs), some t =>
      if off + t.sz ≤ cs.length then
        match packD A H t (cs.drop off) with
        | some (x, _) => some (.dptr t x, true)
        | none => none
      else none
    | _, _ => none
  | .agg vs =>
    match (match te with | some t => some t | none => pe) with
    | some te =>
      if te.isAgg then
        match packD A H te vs with
        | some (x, []) => some (.dat te x, !vs.all pureV)
        | _ => none
      else none
    | none => none
  | .nilS =>
    match te with
    | some (.sl e) => some (.dat (.sl e) [], false)
    | _ => none
  | _ => none

/-- A captured variable: one cell, or of the type 'pe'. -/
def capD (A : Alg) (H : Heap) (pe : Option Ty) (v : AV) : Option AV :=
  match pe with
  | some t => match argD A H none (some t) v with
    | some (v', l) => if l = true ∧ pureV v = true then none else some v'
    | none => none
  | none =>
  match v with
  | .dptr t x => some (.dptr t x)
  | .bptr r off =>
    match hget H r with
    | some (.box cs) =>
      match cs.getD off .junk with
      | .dat t x => some (.dptr t x)
      | .lb b => some (.dptr .bool b)
      | .ref e r ver p lo n =>
        match readRef A H e r ver p with
        | some (_, y) => some (.dptr (.sl e) (A.subL y lo n))
        | none => none
      | _ => none
    | _ => none
  | _ => none
def capsD (A : Alg) (H : Heap) (pe : Option Ty) : List AV → Option (List AV)
  | [] => some []
  | v :: vs =>
    match capD A H pe v, capsD A H pe vs with
    | some a, some as' => some (a :: as')
    | _, _ => none

def argC (A : Alg) (H : Heap) (te pe : Option Ty) (v : AV) : Option (AV × Bool) :=
  match v with
  | .clo f cs => match capsD A H pe cs with | some k => some (.clo f k, !cs.all pureV) | none => none
  | v => argD A H te pe v

/-- 'kn': nil stays nil. -/
def argK (A : Alg) (H : Heap) (kn : Bool) (te pe : Option Ty) (v : AV) : Option (AV × Bool) :=
  match kn, v with
  | true, .nilS => some (.nilS, false)
  | _, v => argC A H te pe v

/-- Arguments as data; whether one leads into a root. -/
def argsD (A : Alg) (τ : Env) (kn : Bool) (s : St) : List Operand → List TypeId → Option (List AV × Bool)
  | [], _ => some ([], false)
  | o :: os, t :: ts =>
    match argK A s.H kn (τ.ty t) (τ.pt t) (ev A s o), argsD A τ kn s os ts with
    | some (a, b), some (r, c) => some (a :: r, b || c)
    | _, _ => none
  | _, _ => none

/-- A result's or a written variable's cells: owned rows become roots. -/
def layC (A : Alg) : (t : Ty) → Md → t.den → Heap → Option (List AV × Heap)
  | .unit, _, _, H => some ([], H)
  | .pair a b, m, x, H =>
    match layC A a m.fst x.1 H with
    | some (l, H) => match layC A b m.snd x.2 H with
      | some (k, H) => some (l ++ k, H)
      | none => none
    | none => none
  | .sl e, .ow m, xs, H => some ([.ref e H.length 0 [] 0 (A.lenL xs)], H ++ [some (.row 0 e m xs)])
  | .sl e, .sh, xs, H => some ([.dat (.sl e) xs], H)
  | .sl _, _, _, _ => none
  | t, _, x, H => some ([.dat t x], H)

def layV (A : Alg) (t : Ty) (m : Md) (x : t.den) (H : Heap) : Option (AV × Heap) :=
  match npOf m with
  | some m' => match layC A t m' x H with
    | some (l, H) => some (.bptr H.length 0, H ++ [some (.box l)])
    | none => none
  | none => match layC A t m x H with
    | some (l, H) => some (ofCells t l, H)
    | none => none

def layVs (A : Alg) : List ((t : Ty) × Md × t.den) → Heap → Option (List AV × Heap)
  | [], H => some ([], H)
  | ⟨t, m, x⟩ :: os, H =>
    match layV A t m x H with
    | some (v, H) => match layVs A os H with
      | some (vs, H) => some (v :: vs, H)
      | none => none
    | none => none

def putCs : List AV → Nat → List AV → List AV
  | cs, _, [] => cs
  | cs, off, v :: vs => putCs (cs.set off v) (off + 1) vs

def retV : List AV → AV
  | [v] => v
  | vs => .tup vs

/-- Where an argument leads into a root: nothing shared may come back. -/
def ownB : AV → Bool
  | .mv t m _ => own t m
  | .mp t m _ => own t m
  | _ => true
def ownO (t : Ty) (m : Md) : Bool :=
  match npOf m with
  | some m => own t m
  | none => own t m
def ownRet (r : Ret) : Bool := r.outs.all (fun o => ownO o.1 o.2.1) && r.backs.all ownB
/-- A result that leads nowhere. -/
def flatO (o : (t : Ty) × Md × t.den) : Bool := !o.1.hasSl && (match npOf o.2.1 with | some _ => false | none => true)

/-- A value that may be written is taken out of the state: its cells packed. -/
def takeV (A : Alg) (T : Ty) (m : Md) (v : AV) (H : Heap) : Option (Pk T) :=
  if T.isAgg = isAggV v then
    match packM A T m (cellsOf v) H with
    | some k => match k.l with
      | [] => if eqM T k.m m then some k else none
      | _ => none
    | none => none
  else none

/-- What was taken is put back, as the call left it: the headers are as they were. 'K': the heap ahead of the call. -/
def putM (A : Alg) (K : Heap) : (t : Ty) → Md → t.den → List AV → Heap → Option (List AV × Heap × List Prop)
  | .unit, _, _, l, H => some (l, H, [])
  | .pair a b, m, x, l, H =>
    match putM A K a m.fst x.1 l H with
    | some (l, H, p) => match putM A K b m.snd x.2 l H with
      | some (l, H, q) => some (l, H, p ++ q)
      | none => none
    | none => none
  | .sl e, m, x, v :: l, H =>
    match v with
    | .ref _ r _ [] 0 n =>
      match hget K r, hget H r with
      | some (.row w e' m0 xs), none => if e' = e then (match m with
          | .ow m' => if m' = m0 then some (l, H.set r (some (.row (if e.hasSl then w + 1 else w) e m' x)), [A.EqN n (A.lenL xs)]) else none
          | _ => none) else none
      | _, _ => none
    | .dat _ _ => some (l, H, [])
    | .nilS => some (l, H, [])
    | _ => none
  | _, _, _, _ :: l, H => some (l, H, [])
  | _, _, _, [], _ => none

/-- How a call ends: what comes back laid into the state. -/
def endCall (A : Alg) (s : St) (d : Option Nat) (outs : List ((t : Ty) × Md × t.den)) (ps : List Prop) (H : Heap) : Tr :=
  match layVs A outs H with
  | some (vs, H) => needs ps (doneH s H d (retV vs))
  | none => .bad

/-- What has become of one that may be written: as the type is. -/
def backOf (t : Ty) (m : Md) : AV → Option t.den
  | .mv t' m' x => if m' = m then castD t' t x else none
  | .mp t' m' x => if m' = m then castD t' t x else none
  | _ => none
def isMv : AV → Bool
  | .mv .. => true
  | _ => false
def isMp : AV → Bool
  | .mp .. => true
  | _ => false
def gone : AV → Bool
  | .mv .. => false
  | .mp .. => false
  | _ => true

/-- What is kept of a variable lent to be written. -/
structure Lent where
  r : Nat
  off : Nat
  T : Ty
  m : Md
  cs : List AV

/-- Variables to be written, taken out. -/
def takeP (A : Alg) (τ : Env) (s : St) : List Md → List Operand → List TypeId → Heap → Option (List AV × List Lent × Heap × List Prop)
  | [], _, _, H => some ([], [], H, [])
  | m :: ms, o :: os, t :: ts, H =>
    match ev A s o, (match τ.pt t with | some T => some T | none => τ.ty t) with
    | .bptr r off, some T =>
      match hget H r with
      | some (.box cs) =>
        if off + T.sz ≤ cs.length then
          match packM A T m ((cs.drop off).take T.sz) (H.set r none) with
          | some k => match k.l with
            | [] => if eqM T k.m m then (match takeP A τ s ms os ts k.H with
                | some (vs, ls, H, ps) => some (.mp T m k.x :: vs, ⟨r, off, T, m, cs⟩ :: ls, H, k.p ++ ps)
                | none => none) else none
            | _ => none
          | none => none
        else none
      | _ => none
    | _, _ => none
  | _, _, _, _ => none

/-- Variables as the call left them. -/
def putP (A : Alg) : List Lent → List AV → Heap → Option Heap
  | [], _, H => some H
  | l :: ls, b :: bs, H =>
    if gone b then putP A ls bs H else
    if isMp b then
      match backOf l.T l.m b with
      | some x => match layC A l.T l.m x H with
        | some (c, H) => if decide (l.r < H.length) then putP A ls bs (H.set l.r (some (.box (putCs l.cs l.off c)))) else none
        | none => none
      | none => none
    else none
  | _ :: _, [], H => some H

/-- A caller goes on with what a call comes to. -/
def exG (q : Bool) (x : Option RX) (k : Ret → Tr) : Tr :=
  match x with
  | some (.one r) => k r
  | some (.any t pre p r) => (match q with | true => .bad | false => needs pre (.ex t fun y => hyps (p y) (k (r y))))
  | none => .bad

def callOp (A : Alg) (τ : Env) (G : Gam) (d : Option Nat) (f : AV) (os : List Operand) (ts : List TypeId) (s : St) : Tr :=
  match f with
  | .clo f caps =>
    match G.mu f with
    | [] =>
      match argsD A τ (G.kn f) s os ts, capsD A s.H none caps with
      | some (al, lent), some cs =>
        exG G.q (G.g f (al ++ cs)) fun r =>
          if (lent || !caps.all pureV) && !ownRet r then .bad else
          if G.q && !(G.en f && r.outs.all flatO) then .bad else
          endCall A s d r.outs r.pre s.H
      | _, _ => .bad
    | m :: ms =>
      if G.q then .bad else
      match G.rt f with
      | j + 1 => (
        match takeP A τ s (m :: ms) (os.drop (j + 1)) (ts.drop (j + 1)) s.H with
        | some (vs, ls, H1, ps) =>
          match argsD A τ (G.kn f) ⟨s.fr, H1⟩ (os.take (j + 1)) (ts.take (j + 1)) with
          | some (al, lent) =>
            if caps.length = 0 ∧ os.length = j + 1 + (ms.length + 1) then
            needs ps (exG false (G.g f (al ++ vs)) fun ret =>
              if lent && !ownRet ret then .bad else
              if (ret.backs.take (j + 1)).all gone then
              match putP A ls (ret.backs.drop (j + 1)) H1 with
              | some H2 => endCall A s d ret.outs ret.pre H2
              | none => .bad
              else .bad)
            else .bad
          | none => .bad
        | none => .bad)
      | 0 =>
      match os, ts with
      | o :: os, t :: ts =>
        match (match ev A s o with | .bptr _ _ => none | _ => τ.ty t) with
        | some T =>
          match ms with
          | [] =>
            match ev A s o with
            | .ref e r ver (st :: p) lo n =>
              match rowAt s.H r ver (hops (st :: p)), readRef A s.H e r ver (st :: p) with
              | some ⟨e0, m0, xs, v⟩, some (m1, y0) =>
                match castD (.sl e) T y0 with
                | some y => (
                match argsD A τ (G.kn f) ⟨s.fr, s.H.set r none⟩ os ts, capsD A (s.H.set r none) none caps with
                | some (al, _), some cs =>
                  if m = .ow m1 ∧ lo = 0 ∧ own T m then
                  .need (A.EqN n (A.lenL y0)) (exG false (G.g f (.mv T m y :: (al ++ cs))) fun ret =>
                    if ownRet ret ∧ ret.outs.all flatO then
                    match ret.backs with
                    | b :: _ =>
                      if isMv b then
                        match backOf T m b with
                        | some y' => match setAt A (.sl e0) (.ow m0) xs (st :: p) T m y' with
                          | some ys => endCall A s d ret.outs ret.pre (s.H.set r (some (.row (if e0.hasSl then v + 1 else v) e0 m0 ys)))
                          | none => .bad
                        | none => .bad
                      else .bad
                    | [] => .bad
                    else .bad)
                  else .bad
                | _, _ => .bad)
                | none => .bad
              | _, _ => .bad
            | v =>
              match takeV A T m v s.H with
              | some k =>
                match argsD A τ (G.kn f) ⟨s.fr, k.H⟩ os ts, capsD A k.H none caps with
                | some (al, lent), some cs =>
                  needs k.p (exG false (G.g f (.mv T m k.x :: (al ++ cs))) fun ret =>
                    if (lent || !caps.all pureV) && !ownRet ret then .bad else
                    match ret.backs with
                    | b :: _ =>
                      if gone b then endCall A s d ret.outs ret.pre k.H else
                      if isMv b then
                        match backOf T m b with
                        | some x => match putM A s.H T m x (cellsOf v) k.H with
                          | some (_, H, ps) => endCall A s d ret.outs (ps ++ ret.pre) H
                          | none => .bad
                        | none => .bad
                      else .bad
                    | [] => endCall A s d ret.outs ret.pre k.H)
                | _, _ => .bad
              | none => .bad
          | _ :: _ => .bad
        | none =>
          match takeP A τ s (m :: ms) (o :: os) (t :: ts) s.H with
          | some (vs, ls, H1, ps) =>
            match argsD A τ (G.kn f) ⟨s.fr, H1⟩ ((o :: os).drop (ms.length + 1)) ((t :: ts).drop (ms.length + 1)), capsD A H1 none caps with
            | some (al, lent), some cs =>
              needs ps (exG false (G.g f (vs ++ (al ++ cs))) fun ret =>
                if (lent || !caps.all pureV) && !ownRet ret then .bad else
                match putP A ls ret.backs H1 with
                | some H2 => endCall A s d ret.outs ret.pre H2
                | none => .bad)
            | _, _ => .bad
          | none => .bad
      | _, _ => .bad
  | _ => .bad

/-! ## Operations -/
def binI (A : Alg) (s : St) (d : Option Nat) (op : BinOp) (k : IntKind) (x y : Int) : Tr :=
  match op with
  | .add => if k = .i64 then .need (A.I64 (A.addI x y)) (done s d (.dat (.int k) (A.addI x y))) else done s d (.dat (.int k) (A.wrapI k (A.addI x y)))
  | .sub => if k = .i64 then .need (A.I64 (A.subI x y)) (done s d (.dat (.int k) (A.subI x y))) else done s d (.dat (.int k) (A.wrapI k (A.subI x y)))
  | .mul => if k = .i64 then .need (A.I64 (A.mulI x y)) (done s d (.dat (.int k) (A.mulI x y))) else done s d (.dat (.int k) (A.wrapI k (A.mulI x y)))
  | .quo => .need (A.QB x y) (done s d (.dat (.int k) (A.divI x y)))
  | .rem => .need (A.QB x y) (done s d (.dat (.int k) (A.modI x y)))
  | .eql => done s d (.dat .bool (A.bEq x y))
  | .neq => done s d (.dat .bool (A.notB (A.bEq x y)))
  | .lss => done s d (.dat .bool (A.ltB x y))
  | .leq => done s d (.dat .bool (A.leB x y))
  | .gtr => done s d (.dat .bool (A.ltB y x))
  | .geq => done s d (.dat .bool (A.leB y x))
  | .and => done s d (.dat (.int k) (A.bitI .and k x y))
  | .or => done s d (.dat (.int k) (A.bitI .or k x y))
  | .xor => done s d (.dat (.int k) (A.bitI .xor k x y))
  | .shl => .need (A.SB y) (done s d (.dat (.int k) (A.shlI k x y)))
  | .shr => .need (A.SB y) (done s d (.dat (.int k) (A.shrI k x y)))
  | _ => .bad

def binS (A : Alg) (s : St) (d : Option Nat) (op : BinOp) (x y : List Int) : Tr :=
  match op with
  | .eql => done s d (.dat .bool (A.eqS x y))
  | .neq => done s d (.dat .bool (A.notB (A.eqS x y)))
  | .add => .need (A.Room (A.addN (A.lenL x) (A.lenL y)) 1) (done s d (.dat .str (A.appL x y)))
  | _ => .bad
def binB (A : Alg) (s : St) (d : Option Nat) (op : BinOp) (x y : Bool) : Tr :=
  match op with
  | .eql => done s d (.dat .bool (A.eqO x y))
  | .neq => done s d (.dat .bool (A.notB (A.eqO x y)))
  | _ => .bad

def asB : AV → Option Bool
  | .dat .bool b => some b
  | .lb b => some b
  | _ => none

/-- Shifts by a number of another type. -/
def shOp (A : Alg) (s : St) (d : Option Nat) (op : BinOp) (k : IntKind) (x y : Int) : Tr :=
  match op with
  | .shl => .need (A.SB y) (done s d (.dat (.int k) (A.shlI k x y)))
  | .shr => .need (A.SB y) (done s d (.dat (.int k) (A.shrI k x y)))
  | _ => .bad

/-- A slice against nil. -/
def nilOp (A : Alg) (s : St) (d : Option Nat) (op : BinOp) (u v : AV) : Tr :=
  match v with
  | .nilS =>
    match op with
    | .eql => match u with
      | .nilS => done s d (.lb true)
      | .dat (.sl _) xs => .both (.hyp (A.EqN (A.lenL xs) 0) (done s d (.lb true))) (done s d (.lb false))
      | .ref _ _ _ _ _ _ => .both (done s d (.lb true)) (done s d (.lb false))
      | _ => .bad
    | .neq => match u with
      | .nilS => done s d (.lb false)
      | .dat (.sl _) xs => .both (.hyp (A.EqN (A.lenL xs) 0) (done s d (.lb false))) (done s d (.lb true))
      | .ref _ _ _ _ _ _ => .both (done s d (.lb false)) (done s d (.lb true))
      | _ => .bad
    | _ => .bad
  | _ => .bad

/-- A value that may lie in cells. -/
def okc : AV → Bool
  | .dat .. | .lb _ | .ref .. | .nilS => true
  | _ => false
/-- Plain fields, one by one. -/
def eqD (A : Alg) : (t : Ty) → t.den → t.den → Option Bool
  | .unit, _, _ => some true
  | .pair (.int _) b, x, y => match eqD A b x.2 y.2 with | some r => some (A.iteB (A.bEq x.1 y.1) r false) | none => none
  | .pair .str b, x, y => match eqD A b x.2 y.2 with | some r => some (A.iteB (A.eqS x.1 y.1) r false) | none => none
  | .pair .bool b, x, y => match eqD A b x.2 y.2 with | some r => some (A.iteB (A.eqO x.1 y.1) r false) | none => none
  | _, _, _ => none
/-- Two structs of plain fields. -/
def eqOp (A : Alg) (s : St) (d : Option Nat) (op : BinOp) (t : Ty) (u v : AV) : Tr :=
  if isAggV u && isAggV v && (cellsOf u).all okc && (cellsOf v).all okc then
    match packD A s.H t (cellsOf u), packD A s.H t (cellsOf v) with
    | some (x, []), some (y, []) =>
      match eqD A t x y with
      | some b => match op with
        | .eql => done s d (.dat .bool b)
        | .neq => done s d (.dat .bool (A.notB b))
        | _ => .bad
      | none => .bad
    | _, _ => .bad
  else .bad
def binV (A : Alg) (bt : Option Ty) (s : St) (d : Option Nat) (op : BinOp) (u v : AV) : Tr :=
  match u, v with
  | .dat (.int k) x, .dat (.int k') y => if k = k' then binI A s d op k x y else shOp A s d op k x y
  | .dat .str x, .dat .str y => binS A s d op x y
  | u, v =>
    match bt, asB u, asB v with
    | some .bool, some x, some y => binB A s d op x y
    | some (.sl _), _, _ => nilOp A s d op u v
    | _, _, _ => .bad

def loadOp (A : Alg) (s : St) (d : Option Nat) (t : Ty) : AV → Tr
  | .dptr t' x => if t' = t then done s d (.dat t' x) else .bad
  | .bptr r off =>
    match hget s.H r with
    | some (.box cs) => if off + t.sz ≤ cs.length then done s d (ofCells t ((cs.drop off).take t.sz)) else .bad
    | _ => .bad
  | .ptr r ver p =>
    match rowAt s.H r ver (hops p - 1) with
    | some ⟨e, m, xs, v⟩ =>
      match getAt A (.sl e) (.ow m) xs p with
      | some ⟨t', m', x⟩ =>
        if t' = t then
          match loadC A r v t' m' x p with
          | some l => done s d (ofCells t l)
          | none =>
            match setAt A (.sl e) (.ow m) xs p t' m' (empC t' m' x) with
            | some ys =>
              match layC A t' (unM t' m') x (s.H.set r (some (.row (if e.hasSl then v + 1 else v) e m ys))) with
              | some (l, H) => (match noOw t' m' with | true => needs (aliveP A t' m' x) (doneH s H d (ofCells t l)) | false => .bad)
              | none => .bad
            | none => .bad
        else .bad
      | none => .bad
    | none => .bad
  | _ => .bad

/-- Cells that fit a type. -/
def fitC : (t : Ty) → List AV → Option (List AV)
  | .unit, l => some l
  | .pair a b, l => match fitC a l with | some l => fitC b l | none => none
  | .sl e, v :: l => match v with
    | .dat (.sl e') _ => if e' = e then some l else none
    | .ref e' .. => if e' = e then some l else none
    | .nilS => some l
    | _ => none
  | t, .dat t' _ :: l => if t' = t then some l else none
  | .bool, .lb _ :: l => some l
  | _, _ => none

def storeOp (A : Alg) (s : St) (d : Option Nat) (t : Ty) (v : AV) : AV → Tr
  | .bptr r off =>
    match hget s.H r with
    | some (.box cs) =>
      match fitC t (cellsOf v) with
      | some [] => if off + t.sz ≤ cs.length then doneH s (s.H.set r (some (.box (putCs cs off (cellsOf v))))) d .junk else .bad
      | _ => .bad
    | _ => .bad
  | .ptr r ver p =>
    match rowAt s.H r ver (hops p - 1) with
    | some ⟨e, m, xs, _⟩ =>
      match getAt A (.sl e) (.ow m) xs p with
      | some ⟨_, m', _⟩ =>
        match packM A t m' (cellsOf v) s.H with
        | some k =>
          match k.l, hget k.H r with
          | [], some (.row v' ..) =>
            if eqM t k.m m' then
              match setAt A (.sl e) (.ow m) xs p t m' k.x with
              | some ys => needs k.p (doneH s (k.H.set r (some (.row (if e.hasSl then v' + 1 else v') e m ys))) d .junk)
              | none => .bad
            else .bad
          | _, _ => .bad
        | none => .bad
      | none => .bad
    | none => .bad
  | _ => .bad

def zeroC : Ty → List AV
  | .unit => []
  | .pair a b => zeroC a ++ zeroC b
  | .sl _ => [.nilS]
  | t => [.dat t t.dflt]

/-- Parts laid over zero cells. -/
def fillC (t : Ty) : List (Nat × AV) → List AV → Option (List AV)
  | [], cs => some cs
  | (i, v) :: ps, cs =>
    match fldT t i 0 with
    | some (f, off) => match fitC f (cellsOf v) with
      | some [] => fillC t ps (putCs cs off (cellsOf v))
      | _ => none
    | none => none

def joinM (e : Ty) (m n : Md) : Option Md := if e.hasSl then (if m = n then some m else none) else some .sh

/-- A literal's elements, packed one by one. -/
def packEs (A : Alg) (e : Ty) : List AV → Heap → Option (Md × List e.den × Heap × List Prop)
  | [], H => some (e.deep, [], H, [])
  | v :: vs, H =>
    match packM A e .no (cellsOf v) H with
    | some ⟨m, x, [], H, p⟩ =>
      match vs with
      | [] => some (m, [x], H, p)
      | _ :: _ =>
        match packEs A e vs H with
        | some (m', xs, H, q) => match joinM e m m' with
          | some m => some (m, x :: xs, H, p ++ q)
          | none => none
        | none => none
    | _ => none

/-- What is appended: mode, elements, the heap behind. -/
def srcM (A : Alg) (e : Ty) (H : Heap) : AV → Option (Md × List e.den × Heap × List Prop)
  | .nilS => some (e.deep, [], H, [])
  | .dat .str x => match castD (.sl (.int .u8)) (.sl e) x with | some y => some (.sh, y, H, []) | none => none
  | .dat t x => match castD t (.sl e) x with | some y => some (.sh, y, H, []) | none => none
  | .ref e' r ver p lo n =>
    match readRef A H e' r ver p with
    | some (m, y) =>
      match castD (.sl e') (.sl e) (A.subL y lo n) with
      | some z =>
        if e.hasSl && !decide (m = .sh) then
          match p, lo with
          | [], 0 => some (m, z, H.set r none, [A.EqN n (A.lenL y)])
          | _, _ => none
        else if e.hasSl then (if m = .sh then some (.sh, z, H, []) else none)
        else some (.sh, z, H, [])
      | none => none
    | none => none
  | _ => none

def appOp (A : Alg) (s : St) (d : Option Nat) (e : Ty) (src : Option (Md × List e.den × Heap × List Prop)) : AV → Tr
  | .nilS =>
    match src with
    | some (m, ys, H, p) => needs p (.need (A.Room (A.lenL ys) e.bnd) (doneH s (H ++ [some (.row 0 e m ys)]) d (.ref e H.length 0 [] 0 (A.lenL ys))))
    | none => .bad
  | .ref _ r _ [] 0 n =>
    match hget s.H r with
    | some (.row _ e' m xs) =>
      match castD (.sl e') (.sl e) xs, src with
      | some xs, some (m', ys, H, p) =>
        match joinM e m m', hget H r with
        | some m, some _ => needs p (.need (A.EqN n (A.lenL xs)) (.need (A.Room (A.addN (A.lenL xs) (A.lenL ys)) e.bnd)
            (doneH s (H.set r none ++ [some (.row 0 e m (A.appL xs ys))]) d (.ref e H.length 0 [] 0 (A.lenL (A.appL xs ys))))))
        | _, _ => .bad
      | _, _ => .bad
    | _ => .bad
  | _ => .bad

def intOf : AV → Option Int
  | .dat (.int _) n => some n
  | _ => none

def lenOp (A : Alg) (s : St) (d : Option Nat) (T : Ty) : AV → Tr
  | .dat t xs =>
    match t, xs with
    | .sl _, xs => match T with | .sl _ => done s d (.dat (.int .i64) (A.natI (A.lenL xs))) | _ => .bad
    | .str, xs => match T with | .str => done s d (.dat (.int .i64) (A.natI (A.lenL xs))) | _ => .bad
    | _, _ => .bad
  | .ref _ _ _ _ _ n => match T with | .sl _ => done s d (.dat (.int .i64) (A.natI n)) | _ => .bad
  | .nilS => match T with | .sl _ => done s d (.dat (.int .i64) 0) | _ => .bad
  | _ => .bad

def plusN (A : Alg) : Nat → Nat → Nat
  | 0, n => n
  | k + 1, n => A.addN (k + 1) n
theorem plusN_std (k n : Nat) : plusN Alg.std k n = k + n := by
  cases k <;> simp [plusN, Alg.std]

def idxOp (A : Alg) (s : St) (d : Option Nat) (e : Ty) (i : Int) : AV → Tr
  | .dat (.sl e') xs => if e' = e then .need (A.InB i (A.lenL xs)) (done s d (.dptr e' (A.getL xs (A.toN i) e'.dflt))) else .bad
  | .ref e' r ver p lo n =>
    if e' = e then
      match readRef0 A s.H e r ver p with
      | some _ => .need (A.InB i n) (done s d (.ptr r ver (p ++ [.idx (plusN A lo (A.toN i))])))
      | none => .bad
    else .bad
  | _ => .bad

/-- A cut: from 'lo' (none: 0) to 'hi' (none: the end). -/
def cutOp (A : Alg) (s : St) (d : Option Nat) (T : Ty) (lo hi : Option Int) : AV → Tr
  | .dat t xs =>
    match t, xs with
    | .sl e, xs =>
      if T = .sl e then
        let l := lo.getD 0
        let h := hi.getD (A.natI (A.lenL xs))
        .need (A.InS l h (A.lenL xs)) (done s d (.dat (.sl e) (A.subL xs (A.toN l) (A.subN (A.toN h) (A.toN l)))))
      else .bad
    | .str, xs =>
      if T = .str then
        let l := lo.getD 0
        let h := hi.getD (A.natI (A.lenL xs))
        .need (A.InS l h (A.lenL xs)) (done s d (.dat .str (A.subL xs (A.toN l) (A.subN (A.toN h) (A.toN l)))))
      else .bad
    | _, _ => .bad
  | .ref e r ver p b n =>
    if T = .sl e then
      let l := lo.getD 0
      let h := hi.getD (A.natI n)
      .need (A.InS l h n) (done s d (.ref e r ver p (A.addN b (A.toN l)) (A.subN (A.toN h) (A.toN l))))
    else .bad
  | _ => .bad

/-- The whole of a slice that lies in a row is written over, from its front. -/
def cpOp (A : Alg) (s : St) (d : Option Nat) (e0 : Ty) (src : Option (List e0.den)) : AV → Tr
  | .ref e r ver (st :: p) lo n =>
    match e0.hasSl, src with
    | false, some z =>
      match rowAt s.H r ver (hops (st :: p)), readRef A s.H e r ver (st :: p) with
      | some ⟨e', m', xs, v⟩, some (m, y) =>
        (match castD (.sl e) (.sl e0) y with
        | some y0 =>
          (match setAt A (.sl e') (.ow m') xs (st :: p) (.sl e0) (.ow m) (A.putL y0 0 (A.subL z 0 (A.minN n (A.lenL z)))) with
          | some ys => if lo = 0 ∧ 0 < e0.sz then .need (A.EqN n (A.lenL y0)) (doneH s (s.H.set r (some (.row (if e'.hasSl then v + 1 else v) e' m' ys))) d (.dat (.int .i64) (A.natI (A.minN n (A.lenL z))))) else .bad
          | none => .bad)
        | none => .bad)
      | _, _ => .bad
    | _, _ => .bad
  | _ => .bad

def optI (A : Alg) (s : St) : Option Operand → Option (Option Int)
  | none => some none
  | some o => match intOf (ev A s o) with | some n => some (some n) | none => none

def stepOp (A : Alg) (τ : Env) (G : Gam) (o : Oper) (s : St) : Tr :=
  let d := o.dst
  match o.op with
  | .move x => done s d (ev A s x)
  | .assign x => done s d (ev A s x)
  | .pick c a b =>
    match ev A s c with
    | .lb true => done s d (ev A s a)
    | .lb false => done s d (ev A s b)
    | .dat .bool c => match asB (ev A s a), asB (ev A s b) with
      | some x, some y => done s d (.dat .bool (A.iteB c x y))
      | _, _ => .bad
    | _ => .bad
  | .alloc t =>
    match τ.ty t with
    | some t => doneH s (s.H ++ [some (.box (zeroC t))]) d (.bptr s.H.length 0)
    | none => .bad
  | .box t v =>
    match τ.ty t with
    | some t => match fitC t (cellsOf (ev A s v)) with
      | some [] => doneH s (s.H ++ [some (.box (cellsOf (ev A s v)))]) d (.bptr s.H.length 0)
      | _ => .bad
    | none => .bad
  | .build t ps =>
    match τ.ty t with
    | some t =>
      if t.isAgg then
        match fillC t (ps.toList.map fun q => (q.1, ev A s q.2)) (zeroC t) with
        | some cs => done s d (.agg cs)
        | none => .bad
      else .bad
    | none => .bad
  | .buildSlice t len ps =>
    match τ.ty t with
    | some (.sl e) =>
      if ps.toList.map (·.1) = List.range len ∧ len * e.sz ≤ 16777216 then
        match packEs A e (ps.toList.map fun q => ev A s q.2) s.H with
        | some (m, xs, H, p) => needs p (doneH s (H ++ [some (.row 0 e m xs)]) d (.ref e H.length 0 [] 0 len))
        | none => .bad
      else .bad
    | _ => .bad
  | .load t a => match τ.ty t with | some t => loadOp A s d t (ev A s a) | none => .bad
  | .store t a v => match τ.ty t with | some t => storeOp A s d t (ev A s v) (ev A s a) | none => .bad
  | .nilCheck x =>
    match ev A s x with
    | .dptr t x => done s d (.dptr t x)
    | .ptr r ver p => done s d (.ptr r ver p)
    | .bptr r off => done s d (.bptr r off)
    | _ => .bad
  | .fieldAddr t x f =>
    match τ.ty t with
    | some T =>
      match fldT T f 0 with
      | some (_, k) =>
        match ev A s x with
        | .dptr T' y => if T' = T then (match fldD T' y f with | some ⟨g, z⟩ => done s d (.dptr g z) | none => .bad) else .bad
        | .ptr r ver p =>
          match rowAt s.H r ver (hops p - 1) with
          | some ⟨e, m, xs, _⟩ =>
            match getAt A (.sl e) (.ow m) xs p with
            | some ⟨T', _, _⟩ => if T' = T then done s d (.ptr r ver (p ++ fldP f)) else .bad
            | none => .bad
          | none => .bad
        | .bptr r off => done s d (.bptr r (off + k))
        | _ => .bad
      | none => .bad
    | none => .bad
  | .field t x f =>
    match τ.ty t with
    | some t => match fldT t f 0 with
      | some (g, k) => if isAggV (ev A s x) then (match fitC t (cellsOf (ev A s x)) with
        | some [] => done s d (ofCells g (((cellsOf (ev A s x)).drop k).take g.sz))
        | _ => .bad) else .bad
      | none => .bad
    | none => .bad
  | .indexAddr t x i => match τ.ty t, intOf (ev A s i) with | some (.sl e), some i => idxOp A s d e i (ev A s x) | _, _ => .bad
  | .index t x i =>
    match τ.ty t, ev A s x, intOf (ev A s i) with
    | some .str, .dat .str xs, some i => .need (A.InB i (A.lenL xs)) (done s d (.dat (.int .u8) (A.getL xs (A.toN i) 0)))
    | _, _, _ => .bad
  | .binOp op t x y _ =>
    match τ.eq t with
    | true => match τ.ty t with | some T => eqOp A s d op T (ev A s x) (ev A s y) | none => .bad
    | false => binV A (τ.ty t) s d op (ev A s x) (ev A s y)
  | .unOp op _ x =>
    match op, ev A s x with
    | .not, .lb b => done s d (.lb !b)
    | .not, .dat .bool b => done s d (.dat .bool (A.notB b))
    | _, _ => .bad
  | .convert t0 t x =>
    match τ.ty t0, τ.ty t with
    | some (.int _), some (.int k') => match ev A s x with
      | .dat (.int k) n => done s d (.dat (.int k') (if k = k' then n else if k = .u8 ∧ k' ≠ .i8 then n else A.wrapI k' n))
      | _ => .bad
    | some (.sl (.int .u8)), some .str => match srcM A (.int .u8) s.H (ev A s x) with
      | some (_, ys, _, []) => done s d (.dat .str ys)
      | _ => .bad
    | _, _ => .bad
  | .makeFunc (.func f) first caps => if first.size = 0 then done s d (.clo f (caps.toList.map (ev A s))) else .bad
  | .makeSlice t n c =>
    match τ.ty t, intOf (ev A s n), intOf (ev A s c) with
    | some (.sl e), some n, some c => .need (n = c) (.need (A.RoomI n e.bnd)
        (doneH s (s.H ++ [some (.row 0 e e.deep (A.repL (A.toN n) e.dflt))]) d (.ref e s.H.length 0 [] 0 (A.toN n))))
    | _, _, _ => .bad
  | .slice t x lo hi none =>
    match τ.ty t, optI A s lo, optI A s hi with
    | some T, some lo, some hi => cutOp A s d T lo hi (ev A s x)
    | _, _, _ => .bad
  | .extract x i =>
    match ev A s x with
    | .tup vs => match vs[i]? with | some v => done s d v | none => .bad
    | _ => .bad
  | .call c =>
    match c.callee with
    | .builtin .len =>
      match c.args.toList, c.argTypes.toList with
      | [x], [t] => match τ.ty t with | some T => lenOp A s d T (ev A s x) | none => .bad
      | _, _ => .bad
    | .builtin .append =>
      match c.args.toList, c.argTypes.toList with
      | [x, y], [t, t2] => match τ.ty t, τ.ty t2 with
        | some (.sl e), some (.sl _) => appOp A s d e (srcM A e s.H (ev A s y)) (ev A s x)
        | some (.sl e), some .str => appOp A s d e (srcM A e s.H (ev A s y)) (ev A s x)
        | some (.sl e), some (.int .i64) => match ev A s y with
          | .dat (.int .i64) n => appOp A s d e (some (e.deep, A.repL (A.toN n) e.dflt, s.H, [A.RoomI n e.bnd])) (ev A s x)
          | _ => .bad
        | _, _ => .bad
      | _, _ => .bad
    | .builtin .copy =>
      match c.args.toList, c.argTypes.toList with
      | [x, y], [t, t2] => match τ.ty t, τ.ty t2 with
        | some (.sl e), some (.sl _) => cpOp A s d e (asSl A s.H e (ev A s y)) (ev A s x)
        | _, _ => .bad
      | _, _ => .bad
    | .value f => callOp A τ G d (ev A s f) c.args.toList c.argTypes.toList s
    | _ => .bad
  | _ => .bad

/-! ## Rows given up as shared -/
def fz1 (A : Alg) (H : Heap) (r : Nat) : AV → AV
  | .ref e r' ver p lo n =>
    if r' = r then
      match readRef A H e r' ver p with
      | some (_, y) => .dat (.sl e) (A.subL y lo n)
      | none => .junk
    else .ref e r' ver p lo n
  | .ptr r' ver p => if r' = r then .junk else .ptr r' ver p
  | .agg _ => .junk
  | .tup _ => .junk
  | .clo f [] => .clo f []
  | .clo _ _ => .junk
  | v => v
def fzV (A : Alg) (H : Heap) (r : Nat) : AV → AV
  | .agg vs => .agg (vs.map (fz1 A H r))
  | .tup vs => .tup (vs.map (fz1 A H r))
  | .clo f vs => .clo f (vs.map (fz1 A H r))
  | v => fz1 A H r v
def fzR (A : Alg) (H : Heap) (r : Nat) : Root → Root
  | .box cs => .box (cs.map (fz1 A H r))
  | .gh cs => .gh (cs.map (fz1 A H r))
  | o => o
/-- A row is given up: what led to it is data from now on. -/
def fzS (A : Alg) (r : Nat) (s : St) : St :=
  match hget s.H r with
  | some (.row ..) => ⟨s.fr.map (fzV A s.H r), (s.H.map fun o => o.map (fzR A s.H r)).set r none⟩
  | _ => s
def fzL (A : Alg) : List Nat → St → St
  | [], s => s
  | r :: l, s => fzL A l (fzS A r s)
/-- Rows that arguments lead to. -/
def rowArgs (A : Alg) (s : St) : List Operand → List Nat
  | [] => []
  | o :: os => match ev A s o with
    | .ref _ r _ [] _ _ => r :: rowArgs A s os
    | _ => rowArgs A s os
/-- Where something shared will come back, rows that are only lent are given up as shared ahead of the call. -/
def preC (A : Alg) (τ : Env) (G : Gam) (f : AV) (os : List Operand) (ts : List TypeId) (s : St) : St :=
  match f with
  | .clo fid _ =>
    match G.q with
    | true => s
    | false =>
      match G.mu fid with
      | [] => s
      | m :: ms =>
        match G.rt fid with
        | 0 =>
          (match takeP A τ s (m :: ms) (os.take (ms.length + 1)) (ts.take (ms.length + 1)) s.H with
          | some (_, ls, _, _) => (match ls.all fun l => own l.T l.m with
            | true => s
            | false => fzL A (rowArgs A s (os.drop (ms.length + 1))) s)
          | none => s)
        | j + 1 =>
          (match takeP A τ s (m :: ms) (os.drop (j + 1)) (ts.drop (j + 1)) s.H with
          | some (_, ls, _, _) => (match ls.all fun l => own l.T l.m with
            | true => s
            | false => fzL A (rowArgs A s (os.take (j + 1))) s)
          | none => s)
  | _ => s
def preS (A : Alg) (τ : Env) (G : Gam) (o : Oper) (s : St) : St :=
  match o.op with
  | .call c => (match c.callee with
    | .value f => preC A τ G (ev A s f) c.args.toList c.argTypes.toList s
    | _ => s)
  | _ => s
/-- One operation of a region, its guard looked at; 'k': what follows. -/
def oneOp (A : Alg) (τ : Env) (G : Gam) (all : List Oper) (o : Oper) (s : St) (k : St → Tr) : Tr :=
  match o.guard with
  | none => (stepOp A τ G o (preS A τ G o s)).bind fun _ s => k s
  | some (j, want) =>
    match (all[j]?).bind (·.dst) with
    | some t =>
      match s.fr.getD t .junk with
      | .lb b => if b = want then (stepOp A τ G o (preS A τ G o s)).bind fun _ s => k s else k (s.put o.dst (.tup []))
      | .tup [] => k (s.put o.dst (.tup []))
      | .dat .bool b =>
        let y := (stepOp A τ G o (preS A τ G o (s.put (some t) (.lb want)))).bind fun _ s => k s
        let n := k ((s.put (some t) (.lb (!want))).put o.dst (.tup []))
        if want then .br b y n else .br b n y
      | _ => .bad
    | none => .bad

def runOps (A : Alg) (τ : Env) (G : Gam) (all : List Oper) : List Oper → St → Tr
  | [], s => .fin .nrm s
  | o :: os, s => oneOp A τ G all o s fun s => runOps A τ G all os s

/-- The roots that live. -/
def liveL : Heap → Nat → List Nat
  | [], _ => []
  | some _ :: H, k => k :: liveL H (k + 1)
  | none :: H, k => liveL H (k + 1)
def posOf : List Nat → Nat → Nat → Option Nat
  | [], _, _ => none
  | x :: l, r, k => if x = r then some k else posOf l r (k + 1)
/-- A value when the roots are numbered anew and rows count their writes anew. -/
def rn1 (H : Heap) (L : List Nat) : AV → AV
  | .ref e r ver p lo n =>
    match posOf L r 0 with
    | some k => match hget H r with
      | some (.row v ..) => if hops p = 0 then .ref e k 0 p lo n else if ver = v then .ref e k 0 p lo n else .junk
      | _ => .junk
    | none => .junk
  | .ptr r ver p =>
    match posOf L r 0 with
    | some k => match hget H r with
      | some (.row v ..) => if hops p - 1 = 0 then .ptr k 0 p else if ver = v then .ptr k 0 p else .junk
      | _ => .junk
    | none => .junk
  | .bptr r off =>
    match posOf L r 0 with
    | some k => .bptr k off
    | none => .junk
  | .agg _ => .junk
  | .tup _ => .junk
  | .clo f [] => .clo f []
  | .clo _ _ => .junk
  | v => v
def rnV (H : Heap) (L : List Nat) : AV → AV
  | .agg vs => .agg (vs.map (rn1 H L))
  | .clo f vs => .clo f (vs.map (rn1 H L))
  | v => rn1 H L v
def rnR (H : Heap) (L : List Nat) : Option Root → Option Root
  | some (.box cs) => some (.box (cs.map (rn1 H L)))
  | some (.gh cs) => some (.gh (cs.map (rn1 H L)))
  | some (.row _ e m xs) => some (.row 0 e m xs)
  | none => none
/-- Dead roots dropped, those that live numbered anew. -/
def sweep (s : St) : St :=
  let L := liveL s.H 0
  ⟨s.fr.map (rnV s.H L), L.map fun r => rnR s.H L (s.H.getD r none)⟩

/-- Operations that leave memory as it is. -/
def quietK (o : Oper) : Bool :=
  match o.op with
  | .move _ | .assign _ | .pick .. | .build .. | .load .. | .nilCheck _ | .fieldAddr .. | .field .. | .indexAddr .. | .index .. | .binOp .. | .unOp .. | .convert .. | .extract .. => true
  | .makeFunc (.func _) .. => true
  | .slice _ _ _ _ none => true
  | .call c => match c.callee with
    | .builtin .len => true
    | .value _ => true
    | _ => false
  | _ => false
/-- Operations that do not look at memory. -/
def pureK (o : Oper) : Bool :=
  match o.op with
  | .move _ | .assign _ | .pick .. | .build .. | .nilCheck _ | .fieldAddr .. | .field .. | .indexAddr .. | .index .. | .binOp .. | .unOp .. | .extract .. => true
  | .makeFunc (.func _) .. => true
  | .slice _ _ _ _ none => true
  | .call c => match c.callee with
    | .builtin .len => true
    | _ => false
  | _ => false

/-- An operation that looks at no memory, its types known. -/
def firstK (τ : Env) (o : Oper) : Bool :=
  pureK o || match o.op with
    | .convert t0 t _ => (match τ.ty t0, τ.ty t with | some (.int _), some (.int _) => true | _, _ => false)
    | _ => false

/-- Operations that change nothing that was there. -/
def keepK (o : Oper) : Bool :=
  pureK o || match o.op with
    | .load .. => true
    | .convert .. => true
    | .alloc _ => true
    | _ => false
/-- What runs beside one operation changes nothing that was there. -/
def besideK (ops : Array Oper) (l : List Bool) (i : Nat) : Bool :=
  (List.range ops.size).all fun j => j == i || l.getD j true || match ops[j]? with
    | some oj => oj.after.any (fun e => Region.binds .any e && e.on == i) || keepK oj
    | none => true
/-- One that may come first. -/
def firstL (τ : Env) (ops : Array Oper) (l : List Bool) (i : Nat) (o : Oper) : Bool :=
  firstK τ o || (match o.op with | .load .. => true | .convert .. => true | _ => false) && besideK ops l i

/-- In which orders the operations of a region are walked. -/
inductive Sch where
  | done
  /-- This one first. -/
  | take (i : Nat) (k : Sch)
  /-- This one may come up, or one of the others. -/
  | alt (i : Nat) (k : Sch) (r : Sch)
  | no

def Sch.alts : Sch → List Nat
  | .alt i _ r => i :: r.alts
  | _ => []
/-- They are all orders. -/
def chkSch (τ : Env) (ops : Array Oper) : Sch → Nat → List Bool → Bool → Bool
  | .done, _, l, _ => (Region.ready .any ops l.toArray).isEmpty
  | .take i k, n, l, _ =>
    match n with
    | 0 => false
    | n + 1 => (match ops[i]? with | some o => firstL τ ops l i o | none => false) && Region.free .any ops l.toArray i && (Region.ready .any ops l.toArray).contains i && chkSch τ ops k n (l.set i true) true
  | .alt i k r, n, l, top =>
    match n with
    | 0 => false
    | n + 1 => (!top || (Region.ready .any ops l.toArray).all fun j => (Sch.alt i k r).alts.contains j) && (!top || !(Region.ready .any ops l.toArray).isEmpty) && (ops[i]?).isSome && chkSch τ ops k n (l.set i true) true && chkSch τ ops r (n + 1) l false
  | .no, _, _, top => !top

def runSch (A : Alg) (τ : Env) (G : Gam) (ops : Array Oper) : Sch → St → Tr
  | .done, s => .fin .nrm s
  | .take i k, s =>
    match ops[i]? with
    | some o => oneOp A τ G ops.toList o s fun s => runSch A τ G ops k s
    | none => .bad
  | .alt i k r, s =>
    match r with
    | .no => match ops[i]? with
      | some o => oneOp A τ G ops.toList o s fun s => runSch A τ G ops k s
      | none => .bad
    | r => match ops[i]? with
      | some o => .both (oneOp A τ G ops.toList o s fun s => runSch A τ G ops k s) (runSch A τ G ops r s)
      | none => .bad
  | .no, _ => .bad

/-- Slots that are not needed any more are given up. -/
def clrB : List Bool → List AV → List AV
  | b :: bs, v :: vs => (match b with | true => v | false => .junk) :: clrB bs vs
  | [], vs => vs
  | _, [] => []
/-- A code's first region: by it a loop is told. -/
def firstR : Code → Nat
  | .region id _ _ => id
  | .seq a _ => firstR a
  | .cond _ x _ => firstR x
  | .block _ c => firstR c
  | .loop c => firstR c
  | _ => 0
/-- A set of a region's operations that may have been done: how many are to come; which come next: one that may be first, or each that is ready; which slots are still needed. -/
structure Nd where
  l : List Bool
  n : Nat
  tk : Bool
  al : List (Nat × Nat)
  /-- Where roots may have come in another order: the slots that are still needed, and all in one form. -/
  kp : Option (List Bool)
/-- How regions that draw their order are walked; which slots a loop's head keeps. -/
structure Opt where
  o : Nat → Bool
  kp : Nat → List Bool
  sc : Nat → Sch := fun _ => .done
  jn : Nat → Option (List Bool) := fun _ => none
  /-- Heads whose roots are numbered in the order in which the slots lead to them. -/
  oh : Nat → Bool := fun _ => false
  /-- What is nil at a head and counts as a row of its own: a slot, or a variable's cell. -/
  lf : Nat → List (Nat × Option Nat × Ty × Md) := fun _ => []
  /-- Regions ahead of which the state is told anew. -/
  ct : Nat → Bool := fun _ => false
  /-- Regions whose orders are told by the sets of what has been done. -/
  dg : Nat → Option (List Nd) := fun _ => none
  /-- Regions that are shown by hand: what they come to. -/
  rg : Nat → Option (St → Tr) := fun _ => none
/-- Roots that a value leads to. -/
def refs1 : AV → List Nat
  | .ref _ r .. => [r]
  | .ptr r .. => [r]
  | .bptr r _ => [r]
  | _ => []
def refsL : List AV → List Nat
  | [] => []
  | v :: vs => refs1 v ++ refsL vs
def refsF : List AV → List Nat
  | [] => []
  | .agg l :: vs => refsL l ++ refsF vs
  | .clo _ l :: vs => refsL l ++ refsF vs
  | v :: vs => refs1 v ++ refsF vs
def refsG : Heap → List Nat
  | [] => []
  | some (.gh cs) :: H => refsL cs ++ refsG H
  | _ :: H => refsG H
/-- Roots that can be reached. -/
def marks (H : Heap) : Nat → List Nat → List Nat → List Nat
  | 0, _, seen => seen
  | _ + 1, [], seen => seen
  | n + 1, r :: todo, seen =>
    match posOf seen r 0 with
    | some _ => marks H n todo seen
    | none => match hget H r with
      | some (.box cs) => marks H n (refsL cs ++ todo) (r :: seen)
      | _ => marks H n todo (r :: seen)
def keepH (seen : List Nat) : Nat → Heap → Heap
  | _, [] => []
  | r, some (.gh cs) :: H => some (.gh cs) :: keepH seen (r + 1) H
  | r, o :: H => (match posOf seen r 0 with | some _ => o | none => none) :: keepH seen (r + 1) H
/-- What cannot be reached is dropped. -/
def gcS (s : St) : St := ⟨s.fr, keepH (marks s.H 200 (refsF s.fr ++ refsG s.H) []) 0 s.H⟩

/-- The state at the first end. -/
def firstS : Tr → Option St
  | .fin .nrm s => some s
  | .need _ k => firstS k
  | .hyp _ k => firstS k
  | .br _ y _ => firstS y
  | .both x _ => firstS x
  | _ => none
/-- Each but once. -/
def nub : List Nat → List Nat → List Nat
  | [], acc => acc
  | r :: l, acc => match posOf acc r 0 with | some _ => nub l acc | none => nub l (r :: acc)
def ghL : Heap → Nat → List Nat
  | [], _ => []
  | some (.gh _) :: H, k => k :: ghL H (k + 1)
  | _ :: H, k => ghL H (k + 1)
/-- The roots that live, in the order in which the slots lead to them. -/
def ordL (s : St) : List Nat := nub (ghL s.H 0 ++ marks s.H 200 (refsF s.fr ++ refsG s.H) []) []
def sweepL (L : List Nat) (s : St) : St := ⟨s.fr.map (rnV s.H L), L.map fun r => rnR s.H L (s.H.getD r none)⟩
/-- The state behind a region that draws its order, in one form for all orders. -/
def joinS (k : List Bool) (s : St) : St := (fun s => sweepL (ordL s) s) ⟨clrB k s.fr, s.H⟩
/-- A row whose elements' slices may go from now on. -/
def weakR (m' : Md) (r : Nat) (H : Heap) : Heap :=
  match hget H r with
  | some (.row v e m xs) => match weakM e m m' with
    | true => H.set r (some (.row v e m' xs))
    | false => match xs with
      | [] => (match okM e m with | true => H.set r (some (.row v e m' [])) | false => H)
      | _ :: _ => H
  | _ => H
/-- nil as an empty row of its own. -/
def lift0 (q : Nat × Option Nat × Ty × Md) (s : St) : St :=
  match q.2.1 with
  | none =>
    match s.fr.getD q.1 .junk with
    | .nilS => ⟨s.fr.set q.1 (.ref q.2.2.1 s.H.length 0 [] 0 0), s.H ++ [some (Root.row 0 q.2.2.1 q.2.2.2 [])]⟩
    | .ref _ r _ _ _ _ => ⟨s.fr, weakR q.2.2.2 r s.H⟩
    | .lb b => ⟨s.fr.set q.1 (.dat .bool b), s.H⟩
    | _ => s
  | some k =>
    match s.fr.getD q.1 .junk with
    | .bptr r off =>
      match hget s.H r with
      | some (.box cs) =>
        match cs.getD (off + k) .junk with
        | .nilS => ⟨s.fr, (s.H ++ [some (Root.row 0 q.2.2.1 q.2.2.2 [])]).set r (some (.box (cs.set (off + k) (.ref q.2.2.1 s.H.length 0 [] 0 0))))⟩
        | .ref _ r2 _ _ _ _ => ⟨s.fr, weakR q.2.2.2 r2 s.H⟩
        | .lb b => ⟨s.fr, s.H.set r (some (.box (cs.set (off + k) (.dat .bool b))))⟩
        | _ => s
      | _ => s
    | _ => s
/-- The cell that is meant. -/
def liftV (q : Nat × Option Nat × Ty × Md) (s : St) : AV :=
  match q.2.1 with
  | none => s.fr.getD q.1 .junk
  | some k =>
    match s.fr.getD q.1 .junk with
    | .bptr r off =>
      match hget s.H r with
      | some (.box cs) => cs.getD (off + k) .junk
      | _ => .junk
    | _ => .junk
/-- 'np' as a mode: a row is given up as shared. -/
def lift1 (A : Alg) (q : Nat × Option Nat × Ty × Md) (s : St) : St :=
  match npOf q.2.2.2 with
  | some _ => (match liftV q s with | .ref _ r _ _ _ _ => fzS A r s | _ => s)
  | none => lift0 q s
def liftL (A : Alg) : List (Nat × Option Nat × Ty × Md) → St → St
  | [], s => s
  | q :: l, s => liftL A l (lift1 A q s)
/-- A loop's head. -/
def headS (A : Alg) (k : List Bool) (oh : Bool) (lf : List (Nat × Option Nat × Ty × Md)) (s : St) : St :=
  (fun s => match oh with
    | true => sweepL (ordL s) s
    | false => sweep (gcS s)) (liftL A lf ⟨clrB k s.fr, s.H⟩)
/-- All ends are the same, once what is dead is dropped: what follows is walked once. -/
def joinT (k : List Bool) (t : Tr) : Tr :=
  match firstS t with
  | some s0 => (fun s1 => .both (t.bind fun e s => match e with | .nrm => .need (joinS k s = s1) (.hyp False .bad) | _ => .bad) (.fin .nrm s1)) (joinS k s0)
  | none => .bad

def bEq : List Bool → List Bool → Bool
  | [], [] => true
  | true :: l, true :: m => bEq l m
  | false :: l, false :: m => bEq l m
  | _, _ => false
def setB : List Bool → Nat → List Bool
  | [], _ => []
  | _ :: l, 0 => true :: l
  | b :: l, i + 1 => b :: setB l i
def normD (k : Option (List Bool)) (s : St) : St := match k with | some k => joinS k s | none => s
def endsIn (k : Option (List Bool)) (s1 : St) (t : Tr) : Tr := t.bind fun e s => match e with | .nrm => .need (normD k s = s1) (.hyp False .bad) | _ => .bad
/-- The element at a place; at the end: that it is to come. -/
def nthQ : List St → Nat → Option (Option St)
  | [], 0 => some none
  | [], _ + 1 => none
  | s :: _, 0 => some (some s)
  | _ :: Q, n + 1 => nthQ Q n
def nthD : List Nd → Nat → Option Nd
  | [], _ => none
  | d :: _, 0 => some d
  | _ :: D, n + 1 => nthD D n
/-- A step to each set that may come next; what is behind it is told once. -/
def runE (A : Alg) (τ : Env) (G : Gam) (ops : Array Oper) (D : List Nd) (s : St) : List (Nat × Nat) → List St → (List St → Tr) → Tr
  | [], Q, k => k Q
  | e :: al, Q, k =>
    match ops[e.1]?, nthD D e.2 with
    | some o, some d =>
      (fun t => match nthQ Q e.2 with
      | some (some s1) => .both (endsIn d.kp s1 t) (runE A τ G ops D s al Q k)
      | some none => match firstS t with
        | some s0 => (fun s1 => .both (endsIn d.kp s1 t) (runE A τ G ops D s al (Q ++ [s1]) k)) (normD d.kp s0)
        | none => .bad
      | none => .bad) (oneOp A τ G ops.toList o s fun s => .fin .nrm s)
    | _, _ => .bad
/-- 'Q': the states at the sets that come, as far as they have been met. -/
def runD (A : Alg) (τ : Env) (G : Gam) (ops : Array Oper) : List Nd → List St → Tr
  | d :: D, s :: Q =>
    match d.al with
    | [] => match D with
      | [] => .fin .nrm s
      | _ => .bad
    | al => runE A τ G ops D s al Q fun Q => runD A τ G ops D Q
  | _, _ => .bad
/-- They are all orders. -/
def chkN (τ : Env) (ops : Array Oper) : List Nd → Bool
  | [] => true
  | d :: D =>
    d.al.all (fun e => match nthD D e.2 with | some d' => d'.n + 1 == d.n && bEq d'.l (setB d.l e.1) | none => false) &&
    (match d.tk, d.al with
    | true, [e] => (match ops[e.1]? with | some o => firstL τ ops d.l e.1 o && o.guard.isNone | none => false) && Region.free .any ops d.l.toArray e.1 && (Region.ready .any ops d.l.toArray).contains e.1
    | false, al => (Region.ready .any ops d.l.toArray).all (fun i => al.any fun e => e.1 == i) && al.all (fun e => (Region.ready .any ops d.l.toArray).contains e.1)
    | _, _ => false) && chkN τ ops D
def chkD (τ : Env) (ops : Array Oper) (D : List Nd) : Bool :=
  (match D with | d :: _ => d.n == ops.size && bEq d.l (List.replicate ops.size false) | [] => false) && chkN τ ops D

/-- Regions that draw their order are of the kinds that 'O' tells. -/
def chkO (τ : Env) (O : Opt) : Code → Bool
  | .region id ops true => (O.rg id).isSome || if O.o id then Region.lexB .any ops && ops.toList.all quietK else Region.noSelect ops && match O.dg id with
    | some D => chkD τ ops D
    | none => chkSch τ ops (O.sc id) ops.size (List.replicate ops.size false) true
  | .seq a b => chkO τ O a && chkO τ O b
  | .cond _ x y => chkO τ O x && chkO τ O y
  | .block _ c => chkO τ O c
  | .loop c => chkO τ O c
  | _ => true

/-- 'O': which regions that draw their order are walked in their own order (all their operations leaving memory as it is). -/
def run (A : Alg) (τ : Env) (G : Gam) (O : Opt) : Code → St → Tr
  | .skip, s => .fin .nrm s
  | .region id ops false, s => match O.rg id with
    | some h => h s
    | none => runOps A τ G ops.toList ops.toList s
  | .region id ops true, s =>
    match O.rg id with
    | some h => h s
    | none => match O.o id with
      | true => runOps A τ { G with q := true } ops.toList ops.toList s
      | false => match O.dg id with
        | some D => runD A τ G ops D [s]
        | none => match O.jn id with
          | some k => joinT k (runSch A τ G ops (O.sc id) s)
          | none => runSch A τ G ops (O.sc id) s
  | .seq a b, s => (run A τ G O a s).bind fun e s => match e with
    | .nrm => match O.ct (firstR b) with
      | true => .lp (fun s => .fin (.exit 0) s) (headS A (O.kp (firstR b)) (O.oh (firstR b)) (O.lf (firstR b)) s) fun _ s => run A τ G O b s
      | false => run A τ G O b s
    | e => .fin e s
  | .cond c x y, s =>
    match ev A s c with
    | .lb true => run A τ G O x s
    | .lb false => run A τ G O y s
    | .dat .bool b => .br b (run A τ G O x s) (run A τ G O y s)
    | _ => .bad
  | .block id c, s => (run A τ G O c s).bind fun e s => match e with
    | .exit j => if j = id then .fin .nrm s else .fin (.exit j) s
    | e => .fin e s
  | .loop c, s => .lp (fun s => (run A τ G O c s).bind fun e s => .fin e (match e with | .nrm => headS A (O.kp (firstR c)) (O.oh (firstR c)) (O.lf (firstR c)) s | _ => s)) (headS A (O.kp (firstR c)) (O.oh (firstR c)) (O.lf (firstR c)) s) fun e s => .fin e s
  | .exit id, s => .fin (.exit id) s
  | .ret, s => .fin .ret s
  | _, _ => .bad

/-! ## Results -/
/-- A result's cells. -/
def resR (τ : Env) (s : St) (t : Ty) : ResultVar → Option (List AV)
  | .tmp i => if t.isAgg = isAggV (s.fr.getD i .junk) then some (cellsOf (s.fr.getD i .junk)) else none
  | .cell a ti =>
    if τ.ty ti = some t then
      match s.fr.getD a .junk with
      | .bptr r off =>
        match hget s.H r with
        | some (.box cs) => if off + t.sz ≤ cs.length then some ((cs.drop off).take t.sz) else none
        | _ => none
      | _ => none
    else none
def resC (τ : Env) (s : St) (t : Ty) (v : ResultVar) : Option (List AV) :=
  match resR τ s t v with
  | some l => if l.length = t.sz ∧ l.all okc then some l else none
  | none => none
/-- A result that is a pointer to a variable: the variable. -/
def resP (s : St) : ResultVar → Heap → Option (Nat × List AV)
  | .tmp i, H =>
    match s.fr.getD i .junk with
    | .bptr r 0 => match hget H r with
      | some (.box cs) => some (r, cs)
      | _ => none
    | _ => none
  | _, _ => none
/-- Results handed back as they were promised: what is to hold. -/
def exitM (A : Alg) (τ : Env) (s : St) (np : Bool) : List ResultVar → List ((t : Ty) × Md × t.den) → Heap → Option (List Prop)
  | [], [], _ => some []
  | v :: vs, ⟨t, m, x⟩ :: os, H =>
    match npOf m with
    | some m' =>
      match resP s v H with
      | some (r, cs) =>
        if np = true ∧ cs.length = t.sz ∧ cs.all okc then
          match packM A t m' cs (H.set r none) with
          | some k =>
            match k.l with
            | [] => if eqM t k.m m' then
                match exitM A τ s np vs os k.H with
                | some q => some (k.p ++ (k.x = x) :: q)
                | none => none
              else none
            | _ => none
          | none => none
        else none
      | none => none
    | none =>
    match resC τ s t v with
    | some l =>
      match packM A t m l H with
      | some k =>
        match k.l with
        | [] => if eqM t k.m m then
            match exitM A τ s np vs os k.H with
            | some q => some (k.p ++ (k.x = x) :: q)
            | none => none
          else none
        | _ => none
      | none => none
    | none => none
  | _, _, _ => none
/-- Results that are shared throughout. -/
def exitD (A : Alg) (τ : Env) (s : St) : List ResultVar → List ((t : Ty) × Md × t.den) → Option (List Prop)
  | [], [] => some []
  | v :: vs, ⟨t, m, x⟩ :: os =>
    if isSh t m ∧ npOf m = none then
      match resC τ s t v with
      | some l =>
        match packD A s.H t l with
        | some (y, []) =>
          match exitD A τ s vs os with
          | some q => some ((y = x) :: q)
          | none => none
        | _ => none
      | none => none
    else none
  | _, _ => none
def exitT (A : Alg) (τ : Env) (s : St) (vs : List ResultVar) (os : List ((t : Ty) × Md × t.den)) : Option (List Prop) :=
  if os.all fun o => (match npOf o.2.1 with | some _ => false | none => isSh o.1 o.2.1) then exitD A τ s vs os else exitM A τ s true vs os s.H

/-! ## Arguments that may be written -/
/-- Arguments laid into a state: the slots, what came in to be written, the heap. -/
def layAs (A : Alg) : List AV → Heap → Option (List AV × List AV × Heap)
  | [], H => some ([], [], H)
  | v :: al, H =>
    match v with
    | .mv t m x =>
      match layC A t m x H with
      | some (l, H) => match layAs A al H with
        | some (vs, g, H) => some (ofCells t l :: vs, l ++ g, H)
        | none => none
      | none => none
    | .mp t m x =>
      match layC A t m x H with
      | some (l, H) => match layAs A al (H ++ [some (.box l)]) with
        | some (vs, g, H') => some (.bptr H.length 0 :: vs, .bptr H.length 0 :: g, H')
        | none => none
      | none => none
    | v => match layAs A al H with
      | some (vs, g, H) => some (v :: vs, g, H)
      | none => none

def findGh : Heap → Option (List AV)
  | [] => none
  | some (.gh cs) :: _ => some cs
  | _ :: H => findGh H

/-- What has become of the arguments that may be written, against what was promised. -/
def backsM (A : Alg) : List AV → List AV → List AV → Heap → Option (Heap × List Prop)
  | [], _, _, H => some (H, [])
  | v :: al, bs, g, H =>
    match v with
    | .mv t m _ =>
      if gone (bs.headD .junk) then backsM A al bs.tail (g.drop t.sz) H else
      if isMv (bs.headD .junk) then
        match backOf t m (bs.headD .junk), packM A t m (g.take t.sz) H with
        | some y, some k => match k.l with
          | [] => if eqM t k.m m then (match backsM A al bs.tail (g.drop t.sz) k.H with
              | some (H, q) => some (H, k.p ++ (k.x = y) :: q)
              | none => none) else none
          | _ => none
        | _, _ => none
      else none
    | .mp t m _ =>
      if gone (bs.headD .junk) then backsM A al bs.tail (g.drop 1) H else
      if isMp (bs.headD .junk) then
        match g.headD .junk with
        | .bptr r 0 =>
          match hget H r with
          | some (.box cs) =>
            if cs.length = t.sz ∧ cs.all okc then
              match backOf t m (bs.headD .junk), packM A t m cs (H.set r none) with
              | some y, some k => match k.l with
                | [] => if eqM t k.m m then (match backsM A al bs.tail (g.drop 1) k.H with
                    | some (H, q) => some (H, k.p ++ (k.x = y) :: q)
                    | none => none) else none
                | _ => none
              | _, _ => none
            else none
          | _ => none
        | _ => none
      else none
    | _ => if gone (bs.headD .junk) then backsM A al bs.tail g H else none

def mutA : AV → Bool
  | .mv .. => true
  | .mp .. => true
  | _ => false

/-- Rows that are wished shared; the cells that are left. -/
def wshC : (t : Ty) → Md → List AV → List Nat × List AV
  | .unit, _, l => ([], l)
  | .pair a b, m, l => match wshC a m.fst l with
    | (x, l) => match wshC b m.snd l with
      | (y, l) => (x ++ y, l)
  | .sl _, .sh, v :: l => match v with
    | .ref _ r _ _ _ _ => ([r], l)
    | _ => ([], l)
  | _, _, _ :: l => ([], l)
  | _, _, [] => ([], [])
def wshO (τ : Env) (s : St) : List ResultVar → List ((t : Ty) × Md × t.den) → List Nat
  | v :: vs, ⟨t, m, _⟩ :: os => match resC τ s t v with
    | some l => (wshC t m l).1 ++ wshO τ s vs os
    | none => wshO τ s vs os
  | _, _ => []
def wshB (H : Heap) : List AV → List AV → List AV → List Nat
  | [], _, _ => []
  | v :: al, bs, g =>
    match v with
    | .mv t m _ => (match gone (bs.headD .junk) with | true => [] | false => (wshC t m (g.take t.sz)).1) ++ wshB H al bs.tail (g.drop t.sz)
    | .mp t m _ => (match gone (bs.headD .junk) with | true => [] | false => match g.headD .junk with
        | .bptr r _ => match hget H r with
          | some (.box cs) => (wshC t m cs).1
          | _ => []
        | _ => []) ++ wshB H al bs.tail (g.drop 1)
    | _ => wshB H al bs.tail g
/-- The whole of what a function hands back. -/
def exitW0 (A : Alg) (τ : Env) (s : St) (vs : List ResultVar) (al : List AV) (r : Ret) : Option (List Prop) :=
  if al.any mutA then
    match findGh s.H with
    | some g => match backsM A al r.backs g s.H with
      | some (H, p) => match exitM A τ s false vs r.outs H with
        | some q => some (p ++ q)
        | none => none
      | none => none
    | none => none
  else if r.backs.all gone then exitT A τ s vs r.outs else none

/-- The state in which results are read: rows that are promised as shared are given up. -/
def exitZ (A : Alg) (τ : Env) (s : St) (vs : List ResultVar) (al : List AV) (r : Ret) : St :=
  match al.any mutA with
  | true => fzL A ((match findGh s.H with | some g => wshB s.H al r.backs g | none => []) ++ wshO τ s vs r.outs) s
  | false => match r.outs.all (fun o => match npOf o.2.1 with | some _ => false | none => isSh o.1 o.2.1) with
    | true => s
    | false => fzL A (wshO τ s vs r.outs) s
def exitW (A : Alg) (τ : Env) (s : St) (vs : List ResultVar) (al : List AV) (r : Ret) : Option (List Prop) := exitW0 A τ (exitZ A τ s vs al r) vs al r

/-! ## Any of which something is known: what it is -/
def peekM (A : Alg) (τ : Env) (s : St) : List ResultVar → List ((t : Ty) × Md × t.den) → Heap → Option (List ((t : Ty) × t.den))
  | [], [], _ => some []
  | v :: vs, ⟨t, m, _⟩ :: os, H =>
    match (match npOf m with
      | some m' => (match resP s v H with | some (r, cs) => packM A t m' cs (H.set r none) | none => none)
      | none => (match resC τ s t v with | some l => packM A t m l H | none => none)) with
    | some k => (match peekM A τ s vs os k.H with | some l => some (⟨t, k.x⟩ :: l) | none => none)
    | none => none
  | _, _, _ => none
def peekD (A : Alg) (τ : Env) (s : St) : List ResultVar → List ((t : Ty) × Md × t.den) → Option (List ((t : Ty) × t.den))
  | [], [] => some []
  | v :: vs, ⟨t, _, _⟩ :: os =>
    match resC τ s t v with
    | some l => (match packD A s.H t l with
      | some (y, _) => (match peekD A τ s vs os with | some l => some (⟨t, y⟩ :: l) | none => none)
      | none => none)
    | none => none
  | _, _ => none
def peekB (A : Alg) : List AV → List AV → List AV → Heap → Option (Heap × List ((t : Ty) × t.den))
  | [], _, _, H => some (H, [])
  | v :: al, bs, g, H =>
    match v with
    | .mv t m _ =>
      if gone (bs.headD .junk) then peekB A al bs.tail (g.drop t.sz) H else
      (match packM A t m (g.take t.sz) H with
      | some k => (match peekB A al bs.tail (g.drop t.sz) k.H with | some (H, l) => some (H, ⟨t, k.x⟩ :: l) | none => none)
      | none => none)
    | .mp t m _ =>
      if gone (bs.headD .junk) then peekB A al bs.tail (g.drop 1) H else
      (match g.headD .junk with
      | .bptr r _ => (match hget H r with
        | some (.box cs) => (match packM A t m cs (H.set r none) with
          | some k => (match peekB A al bs.tail (g.drop 1) k.H with | some (H, l) => some (H, ⟨t, k.x⟩ :: l) | none => none)
          | none => none)
        | _ => none)
      | _ => none)
    | _ => peekB A al bs.tail g H
def mkY : (t : Ty) → List ((t : Ty) × t.den) → Option t.den
  | .unit, [] => some ()
  | .pair a b, ⟨t, x⟩ :: l =>
    match castD t a x, mkY b l with
    | some x, some y => some (x, y)
    | _, _ => none
  | _, _ => none
/-- What is handed back, as one value: results, then what has become of written arguments. -/
def yOf (A : Alg) (τ : Env) (s : St) (vs : List ResultVar) (al : List AV) (r : Ret) (t : Ty) : Option t.den :=
  match (if al.any mutA then
      (match findGh s.H with
      | some g => (match peekB A al r.backs g s.H with
        | some (H, l) => (match peekM A τ s vs r.outs H with | some k => some (k ++ l) | none => none)
        | none => none)
      | none => none)
    else if r.outs.all fun o => (match npOf o.2.1 with | some _ => false | none => isSh o.1 o.2.1) then peekD A τ s vs r.outs else peekM A τ s vs r.outs s.H) with
  | some l => mkY t l
  | none => none

end Go.Vee

set_option linter.unusedSimpArgs false
set_option linter.unusedVariables false
namespace Go.Vee
open Go

/-! ## Reading memory -/
def seg (arr : Array Value) (i n : Nat) : List Value := (arr.toList.drop i).take n

theorem seg_length {arr : Array Value} {i n : Nat} (h : i + n ≤ arr.size) : (seg arr i n).length = n := by
  simp [seg]; omega

theorem seg_get {arr : Array Value} {i n j : Nat} (h : j < n) : (seg arr i n)[j]? = arr[i + j]? := by
  simp [seg, List.getElem?_take, h, List.getElem?_drop]

theorem seg_seg {arr : Array Value} {i n j k : Nat} (h : j + k ≤ n) : ((seg arr i n).drop j).take k = seg arr (i + j) k := by
  simp only [seg, List.drop_take, List.take_take, List.drop_drop]
  congr 1
  omega

/-- 'cs' are the cells of a value of type t that reads as x: what is owned is just 'fp'; what is shared lies in I. -/
def Own (w : World) (I : Nat → Prop) : (t : Ty) → Md → List Value → t.den → List Nat → Prop
  | .int k, _, cs, n, fp => cs = [.int k n] ∧ (k.min ≤ n ∧ n ≤ k.max) ∧ fp = []
  | .bool, _, cs, b, fp => cs = [.bool b] ∧ fp = []
  | .str, _, cs, l, fp => (∃ s : ByteArray, cs = [.string s] ∧ l = s.data.toList.map (fun b => (b.toNat : Int)) ∧ s.size ≤ 9223372036854775807) ∧ fp = []
  | .sl e, m, cs, xs, fp =>
    xs.length ≤ 9223372036854775807 ∧
    match m with
    | .sh => fp = [] ∧ ∃ A c, cs = [.slice A xs.length c] ∧ xs.length ≤ c ∧ (xs = [] ∨ ∃ (b off : Nat) (arr : Array Value) (et : TypeId) (fr : Nat × Nat), A = some ⟨b, off, none⟩ ∧ w.heap[b]? = some (.cells arr et fr) ∧ I b ∧
        ∀ j (h : j < xs.length), off + (j + 1) * e.sz ≤ arr.size ∧ Own w I e .sh (seg arr (off + j * e.sz) e.sz) (xs[j]'h) [])
    | .ow m' => (cs = [.slice none 0 0] ∧ xs = [] ∧ fp = []) ∨
        ∃ (b c : Nat) (arr : Array Value) (et : TypeId) (fps : List (List Nat)), cs = [.slice (some ⟨b, 0, none⟩) xs.length c] ∧ w.heap[b]? = some (.cells arr et (0, 0)) ∧ xs.length ≤ c ∧ c ≤ maxLen ∧ arr.size = c * e.sz ∧
          fps.length = xs.length ∧ fp = b :: fps.flatten ∧
          ∀ j (h : j < xs.length), Own w I e m' (seg arr (j * e.sz) e.sz) (xs[j]'h) (fps.getD j [])
    | .no => (xs = [] ∧ fp = [] ∧ ∃ A n c, cs = [.slice A n c]) ∨ (xs ≠ [] ∧ ((cs = [.slice none 0 0] ∧ xs = [] ∧ fp = []) ∨
        ∃ (b c : Nat) (arr : Array Value) (et : TypeId) (fps : List (List Nat)), cs = [.slice (some ⟨b, 0, none⟩) xs.length c] ∧ w.heap[b]? = some (.cells arr et (0, 0)) ∧ xs.length ≤ c ∧ c ≤ maxLen ∧ arr.size = c * e.sz ∧
          fps.length = xs.length ∧ fp = b :: fps.flatten ∧
          ∀ j (h : j < xs.length), Own w I e e.deep (seg arr (j * e.sz) e.sz) (xs[j]'h) (fps.getD j [])))
    | _ => False
  | .unit, _, cs, _, fp => cs = [] ∧ fp = []
  | .pair a b, m, cs, x, fp => ∃ c1 c2 f1 f2, cs = c1 ++ c2 ∧ fp = f1 ++ f2 ∧ Own w I a m.fst c1 x.1 f1 ∧ Own w I b m.snd c2 x.2 f2

/-- Gone, or there and wholly of its own. -/
theorem Own.no_iff {w : World} {I : Nat → Prop} {e : Ty} {cs : List Value} {xs : List e.den} {fp : List Nat} : Own w I (.sl e) .no cs xs fp ↔ (xs = [] ∧ fp = [] ∧ ∃ A n c, cs = [.slice A n c]) ∨ (xs ≠ [] ∧ Own w I (.sl e) (.ow e.deep) cs xs fp) := by
  constructor
  · rintro ⟨h1, h | ⟨h2, h3⟩⟩
    · exact .inl h
    · exact .inr ⟨h2, h1, h3⟩
  · rintro (⟨rfl, rfl, h⟩ | ⟨h2, h1, h3⟩)
    · exact ⟨by simp, .inl ⟨rfl, rfl, h⟩⟩
    · exact ⟨h1, .inr ⟨h2, h3⟩⟩

theorem Own.len {w : World} {I : Nat → Prop} : ∀ {t : Ty} {m : Md} {cs : List Value} {x : t.den} {fp : List Nat}, Own w I t m cs x fp → cs.length = t.sz
  | .int _, _, _, _, _, h => by simp [h.1, Ty.sz]
  | .bool, _, _, _, _, h => by simp [h.1, Ty.sz]
  | .str, _, _, _, _, h => by obtain ⟨⟨s, rfl, _⟩, _⟩ := h; rfl
  | .sl e, .sh, _, _, _, h => by obtain ⟨_, _, A, c, rfl, _, _⟩ := h; rfl
  | .sl e, .ow m', _, _, _, h => by
    rcases h.2 with ⟨rfl, _⟩ | ⟨b, c, arr, et, fps, rfl, _⟩ <;> rfl
  | .sl e, .no, _, _, _, h => by
    rcases h.2 with ⟨_, _, A, n, c, rfl⟩ | ⟨_, ⟨rfl, _⟩ | ⟨b, c, arr, et, fps, rfl, _⟩⟩ <;> rfl
  | .sl e, .pr _ _, _, _, _, h => h.2.elim
  | .unit, _, _, _, _, h => by simp [h.1, Ty.sz]
  | .pair a b, _, _, _, _, h => by
    obtain ⟨c1, c2, f1, f2, rfl, _, h1, h2⟩ := h
    simp [Ty.sz, Own.len h1, Own.len h2]

theorem Own.one {w : World} {I : Nat → Prop} : ∀ {t : Ty} {m : Md} {cs : List Value} {x : t.den} {fp : List Nat}, Own w I t m cs x fp → ∀ v ∈ cs, v.oneCell' = true
  | .int _, _, _, _, _, h, v, hv => by simp [h.1] at hv; subst hv; rfl
  | .bool, _, _, _, _, h, v, hv => by simp [h.1] at hv; subst hv; rfl
  | .str, _, _, _, _, h, v, hv => by obtain ⟨⟨s, rfl, _⟩, _⟩ := h; simp at hv; subst hv; rfl
  | .sl e, .sh, _, _, _, h, v, hv => by obtain ⟨_, _, A, c, rfl, _, _⟩ := h; simp at hv; subst hv; rfl
  | .sl e, .ow m', _, _, _, h, v, hv => by
    rcases h.2 with ⟨rfl, _⟩ | ⟨b, c, arr, et, fps, rfl, _⟩ <;> (simp at hv; subst hv; rfl)
  | .sl e, .no, _, _, _, h, v, hv => by
    rcases h.2 with ⟨_, _, A, n, c, rfl⟩ | ⟨_, ⟨rfl, _⟩ | ⟨b, c, arr, et, fps, rfl, _⟩⟩ <;> (simp at hv; subst hv; rfl)
  | .sl e, .pr _ _, _, _, _, h, _, _ => h.2.elim
  | .unit, _, _, _, _, h, v, hv => by simp [h.1] at hv
  | .pair a b, _, _, _, _, h, v, hv => by
    obtain ⟨c1, c2, f1, f2, rfl, _, h1, h2⟩ := h
    rcases List.mem_append.1 hv with hv | hv
    · exact Own.one h1 v hv
    · exact Own.one h2 v hv

/-- What is read lies in 'fp' and in I alone. -/
theorem Own.frame {w w' : World} {I I' : Nat → Prop} (hI : ∀ b, I b → w'.heap[b]? = w.heap[b]?) (hII : ∀ b, I b → I' b) :
    ∀ {t : Ty} {m : Md} {cs : List Value} {x : t.den} {fp : List Nat}, Own w I t m cs x fp → (∀ b ∈ fp, w'.heap[b]? = w.heap[b]?) → Own w' I' t m cs x fp
  | .int _, _, _, _, _, h, _ => h
  | .bool, _, _, _, _, h, _ => h
  | .str, _, _, _, _, h, _ => h
  | .sl e, .sh, _, _, _, h, hf => by
    obtain ⟨hl, rfl, A, c, rfl, hc, h⟩ := h
    refine ⟨hl, rfl, A, c, rfl, hc, ?_⟩
    rcases h with h | ⟨b, off, arr, et, fr, rfl, hb, hi, h⟩
    · exact .inl h
    · exact .inr ⟨b, off, arr, et, fr, rfl, (hI b hi).trans hb, hII b hi, fun j hj => ⟨(h j hj).1, Own.frame hI hII (h j hj).2 (by simp)⟩⟩
  | .sl e, .ow m', _, _, _, h, hf => by
    refine ⟨h.1, ?_⟩
    rcases h.2 with h | ⟨b, c, arr, et, fps, rfl, hb, h1, h2, h3, h4, rfl, hel⟩
    · exact .inl h
    · refine .inr ⟨b, c, arr, et, fps, rfl, (hf b (by simp)).trans hb, h1, h2, h3, h4, rfl, fun j hj => Own.frame hI hII (hel j hj) fun q hq => hf q ?_⟩
      refine List.mem_cons_of_mem _ (List.mem_flatten.2 ⟨_, ?_, hq⟩)
      have hj' : j < fps.length := by omega
      simp [List.getD_eq_getElem?_getD, hj']
  | .sl e, .no, _, _, _, h, hf => by
    refine ⟨h.1, ?_⟩
    rcases h.2 with h | ⟨hn, h | ⟨b, c, arr, et, fps, rfl, hb, h1, h2, h3, h4, rfl, hel⟩⟩
    · exact .inl h
    · exact .inr ⟨hn, .inl h⟩
    · refine .inr ⟨hn, .inr ⟨b, c, arr, et, fps, rfl, (hf b (by simp)).trans hb, h1, h2, h3, h4, rfl, fun j hj => Own.frame hI hII (hel j hj) fun q hq => hf q ?_⟩⟩
      refine List.mem_cons_of_mem _ (List.mem_flatten.2 ⟨_, ?_, hq⟩)
      have hj' : j < fps.length := by omega
      simp [List.getD_eq_getElem?_getD, hj']
  | .sl e, .pr _ _, _, _, _, h, _ => h.2.elim
  | .unit, _, _, _, _, h, _ => h
  | .pair a b, _, _, _, _, h, hf => by
    obtain ⟨c1, c2, f1, f2, rfl, rfl, h1, h2⟩ := h
    exact ⟨c1, c2, f1, f2, rfl, rfl, Own.frame hI hII h1 (fun q hq => hf q (by simp [hq])), Own.frame hI hII h2 (fun q hq => hf q (by simp [hq]))⟩

/-- What is owned may be read as shared, if it is counted among the shared. -/
theorem Own.share {w : World} {I : Nat → Prop} :
    ∀ {t : Ty} {m : Md} {cs : List Value} {x : t.den} {fp : List Nat}, okM t m = true → Own w I t m cs x fp → (∀ b ∈ fp, I b) → Own w I t .sh cs x []
  | .int _, _, _, _, _, _, h, _ => ⟨h.1, h.2.1, rfl⟩
  | .bool, _, _, _, _, _, h, _ => ⟨h.1, rfl⟩
  | .str, _, _, _, _, _, h, _ => ⟨h.1, rfl⟩
  | .sl e, .sh, _, _, _, _, h, _ => ⟨h.1, rfl, h.2.2⟩
  | .sl e, .ow m', _, xs, _, ho, h, hf => by
    refine ⟨h.1, rfl, ?_⟩
    rcases h.2 with ⟨rfl, rfl, _⟩ | ⟨b, c, arr, et, fps, rfl, hb, h1, h2, h3, h4, rfl, hel⟩
    · exact ⟨none, 0, rfl, Nat.le_refl _, .inl rfl⟩
    · refine ⟨_, c, rfl, h1, .inr ⟨b, 0, arr, et, _, rfl, hb, hf b (by simp), fun j hj => ⟨?_, ?_⟩⟩⟩
      · rw [h3, Nat.zero_add]; exact Nat.mul_le_mul_right _ (by omega)
      · rw [Nat.zero_add]
        refine Own.share (by simpa [okM] using ho) (hel j hj) fun q hq => hf q (List.mem_cons_of_mem _ (List.mem_flatten.2 ⟨_, ?_, hq⟩))
        have hj' : j < fps.length := by omega
        simp [List.getD_eq_getElem?_getD, hj']
  | .sl e, .no, _, _, _, ho, _, _ => by simp [okM] at ho
  | .sl e, .pr _ _, _, _, _, _, h, _ => h.2.elim
  | .unit, _, _, _, _, _, h, _ => ⟨h.1, rfl⟩
  | .pair a b, m, _, _, _, ho, h, hf => by
    simp only [okM, Bool.and_eq_true] at ho
    obtain ⟨c1, c2, f1, f2, rfl, rfl, h1, h2⟩ := h
    exact ⟨c1, c2, [], [], rfl, rfl, Own.share ho.1 h1 (fun q hq => hf q (by simp [hq])), Own.share ho.2 h2 (fun q hq => hf q (by simp [hq]))⟩

/-- Where nothing is shared, I is not asked. -/
theorem Own.anyI {w : World} {I I' : Nat → Prop} :
    ∀ {t : Ty} {m : Md} {cs : List Value} {x : t.den} {fp : List Nat}, own t m = true → Own w I t m cs x fp → Own w I' t m cs x fp
  | .int _, _, _, _, _, _, h => h
  | .bool, _, _, _, _, _, h => h
  | .str, _, _, _, _, _, h => h
  | .sl e, .sh, _, _, _, ho, _ => by simp [own] at ho
  | .sl e, .ow m', _, _, _, ho, h => by
    refine ⟨h.1, ?_⟩
    rcases h.2 with h | ⟨b, c, arr, et, fps, rfl, hb, h1, h2, h3, h4, rfl, hel⟩
    · exact .inl h
    · exact .inr ⟨b, c, arr, et, fps, rfl, hb, h1, h2, h3, h4, rfl, fun j hj => Own.anyI (by simpa [own] using ho) (hel j hj)⟩
  | .sl e, .no, _, _, _, ho, _ => by simp [own] at ho
  | .sl e, .pr _ _, _, _, _, _, h => h.2.elim
  | .unit, _, _, _, _, _, h => h
  | .pair a b, m, _, _, _, ho, h => by
    obtain ⟨c1, c2, f1, f2, rfl, rfl, h1, h2⟩ := h
    simp only [own, Bool.and_eq_true] at ho
    exact ⟨c1, c2, f1, f2, rfl, rfl, Own.anyI ho.1 h1, Own.anyI ho.2 h2⟩

/-- Slices that may have gone. -/
theorem Own.weak {w : World} {I : Nat → Prop} :
    ∀ {t : Ty} {m m' : Md} {cs : List Value} {x : t.den} {fp : List Nat}, weakM t m m' = true → Own w I t m cs x fp → fp.Nodup → ∃ fp', Own w I t m' cs x fp' ∧ fp'.Nodup ∧ ∀ b ∈ fp', b ∈ fp
  | .int _, _, _, _, _, fp, _, h, hn => ⟨fp, h, hn, fun _ hb => hb⟩
  | .bool, _, _, _, _, fp, _, h, hn => ⟨fp, h, hn, fun _ hb => hb⟩
  | .str, _, _, _, _, fp, _, h, hn => ⟨fp, h, hn, fun _ hb => hb⟩
  | .unit, _, _, _, _, fp, _, h, hn => ⟨fp, h, hn, fun _ hb => hb⟩
  | .sl e, m, m', cs, xs, fp, hw, h, hn => by
    simp only [weakM, Bool.or_eq_true, Bool.and_eq_true, decide_eq_true_eq] at hw
    rcases hw with rfl | ⟨rfl, rfl⟩
    · exact ⟨fp, h, hn, fun _ hb => hb⟩
    · by_cases hx : xs = []
      · subst hx
        refine ⟨[], Own.no_iff.2 (.inl ⟨rfl, rfl, ?_⟩), by simp, by simp⟩
        rcases h.2 with ⟨rfl, _⟩ | ⟨b, c, arr, et, fps, rfl, _⟩
        · exact ⟨_, _, _, rfl⟩
        · exact ⟨_, _, _, rfl⟩
      · exact ⟨fp, Own.no_iff.2 (.inr ⟨hx, h⟩), hn, fun _ hb => hb⟩
  | .pair a b, m, m', cs, x, fp, hw, h, hn => by
    simp only [weakM, Bool.and_eq_true] at hw
    obtain ⟨c1, c2, f1, f2, rfl, rfl, h1, h2⟩ := h
    rw [List.nodup_append] at hn
    obtain ⟨n1, n2, n12⟩ := hn
    obtain ⟨g1, k1, d1, s1⟩ := Own.weak hw.1 h1 n1
    obtain ⟨g2, k2, d2, s2⟩ := Own.weak hw.2 h2 n2
    refine ⟨g1 ++ g2, ⟨c1, c2, g1, g2, rfl, rfl, k1, k2⟩, ?_, fun b hb => ?_⟩
    · rw [List.nodup_append]
      exact ⟨d1, d2, fun u hu v hv => n12 u (s1 u hu) v (s2 v hv)⟩
    · rcases List.mem_append.1 hb with hb | hb
      · exact List.mem_append_left _ (s1 b hb)
      · exact List.mem_append_right _ (s2 b hb)

/-- Every block that is owned is there. -/
theorem Own.lt {w : World} {I : Nat → Prop} :
    ∀ {t : Ty} {m : Md} {cs : List Value} {x : t.den} {fp : List Nat}, Own w I t m cs x fp → ∀ b ∈ fp, b < w.heap.size
  | .int _, _, _, _, _, h, b, hb => by simp [h.2.2] at hb
  | .bool, _, _, _, _, h, b, hb => by simp [h.2] at hb
  | .str, _, _, _, _, h, b, hb => by simp [h.2] at hb
  | .sl e, .sh, _, _, _, h, b, hb => by simp [h.2.1] at hb
  | .sl e, .ow m', _, _, _, h, q, hq => by
    rcases h.2 with ⟨_, _, rfl⟩ | ⟨b, c, arr, et, fps, rfl, hb, h1, h2, h3, h4, rfl, hel⟩
    · simp at hq
    · rcases List.mem_cons.1 hq with rfl | hq
      · exact (Array.getElem?_eq_some_iff.1 hb).1
      · obtain ⟨l, hl, hq⟩ := List.mem_flatten.1 hq
        obtain ⟨j, hj, rfl⟩ := List.getElem_of_mem hl
        exact Own.lt (hel j (by omega)) q (by simpa [List.getD_eq_getElem?_getD, hj] using hq)
  | .sl e, .no, _, _, _, h, q, hq => by
    rcases h.2 with ⟨_, rfl, _⟩ | ⟨_, ⟨_, _, rfl⟩ | ⟨b, c, arr, et, fps, rfl, hb, h1, h2, h3, h4, rfl, hel⟩⟩
    · simp at hq
    · simp at hq
    · rcases List.mem_cons.1 hq with rfl | hq
      · exact (Array.getElem?_eq_some_iff.1 hb).1
      · obtain ⟨l, hl, hq⟩ := List.mem_flatten.1 hq
        obtain ⟨j, hj, rfl⟩ := List.getElem_of_mem hl
        exact Own.lt (hel j (by omega)) q (by simpa [List.getD_eq_getElem?_getD, hj] using hq)
  | .sl e, .pr _ _, _, _, _, h, _, _ => h.2.elim
  | .unit, _, _, _, _, h, b, hb => by simp [h.2] at hb
  | .pair a b, _, _, _, _, h, q, hq => by
    obtain ⟨c1, c2, f1, f2, rfl, rfl, h1, h2⟩ := h
    rcases List.mem_append.1 hq with hq | hq
    · exact Own.lt h1 q hq
    · exact Own.lt h2 q hq

end Go.Vee

set_option linter.unusedSimpArgs false
set_option linter.unusedVariables false
namespace Go.Vee
open Go

theorem nodup_flatten {L : List (List Nat)} : L.flatten.Nodup ↔ (∀ j, (L.getD j []).Nodup) ∧ ∀ j k, j ≠ k → ∀ q, q ∈ L.getD j [] → q ∉ L.getD k [] := by
  induction L with
  | nil => simp
  | cons l L ih =>
    rw [List.flatten_cons, List.nodup_append, ih]
    constructor
    · rintro ⟨h1, ⟨h2, h3⟩, h4⟩
      refine ⟨fun j => ?_, fun j k hjk q hq hk => ?_⟩
      · cases j with
        | zero => simpa using h1
        | succ j => simpa using h2 j
      · have mem : ∀ i, q ∈ L.getD i [] → q ∈ L.flatten := fun i hi => by
          by_cases h : i < L.length
          · exact List.mem_flatten.2 ⟨L[i], List.getElem_mem h, by simpa [List.getD_eq_getElem?_getD, h] using hi⟩
          · simp [List.getD_eq_getElem?_getD, List.getElem?_eq_none (Nat.le_of_not_lt h)] at hi
        cases j with
        | zero => cases k with
          | zero => exact hjk rfl
          | succ k => exact h4 q (by simpa using hq) q (mem k (by simpa using hk)) rfl
        | succ j => cases k with
          | zero => exact h4 q (by simpa using hk) q (mem j (by simpa using hq)) rfl
          | succ k => exact h3 j k (by omega) q (by simpa using hq) (by simpa using hk)
    · rintro ⟨h1, h2⟩
      refine ⟨by simpa using h1 0, ⟨fun j => by simpa using h1 (j + 1), fun j k hjk q hq => by simpa using h2 (j + 1) (k + 1) (by omega) q (by simpa using hq)⟩, fun a ha b hb => ?_⟩
      rintro rfl
      obtain ⟨l', hl', hm⟩ := List.mem_flatten.1 hb
      obtain ⟨j, hj, rfl⟩ := List.getElem_of_mem hl'
      exact h2 0 (j + 1) (by omega) a (by simpa using ha) (by simpa [List.getD_eq_getElem?_getD, hj] using hm)

theorem mem_flatten_getD {L : List (List Nat)} {q : Nat} : q ∈ L.flatten ↔ ∃ j, q ∈ L.getD j [] := by
  constructor
  · intro h
    obtain ⟨l', hl', hm⟩ := List.mem_flatten.1 h
    obtain ⟨j, hj, rfl⟩ := List.getElem_of_mem hl'
    exact ⟨j, by simpa [List.getD_eq_getElem?_getD, hj] using hm⟩
  · rintro ⟨j, h⟩
    by_cases hj : j < L.length
    · exact List.mem_flatten.2 ⟨L[j], List.getElem_mem hj, by simpa [List.getD_eq_getElem?_getD, hj] using h⟩
    · simp [List.getD_eq_getElem?_getD, List.getElem?_eq_none (Nat.le_of_not_lt hj)] at h

theorem getD_set {L : List (List Nat)} {i j : Nat} {v : List Nat} (hi : i < L.length) : (L.set i v).getD j [] = if j = i then v else L.getD j [] := by
  simp only [List.getD_eq_getElem?_getD, List.getElem?_set]
  by_cases h : i = j
  · subst h; simp [hi]
  · simp [h, Ne.symm h]

/-! ## Ways into a value -/
/-- The cells at the end of a way, its type, and where they lie in memory (none: they are in hand). -/
def walk (w : World) : (t : Ty) → List Value → Option (Nat × Nat) → List Stp → Option (Ty × List Value × Option (Nat × Nat))
  | t, cs, l, [] => some (t, cs, l)
  | .pair a _, cs, l, .fst :: p => walk w a (cs.take a.sz) l p
  | .pair a b, cs, l, .snd :: p => walk w b (cs.drop a.sz) (l.map fun q => (q.1, q.2 + a.sz)) p
  | .sl e, [.slice (some ⟨b, off, none⟩) n _], _, .idx i :: p =>
    match w.heap[b]? with
    | some (.cells arr _ _) => if i < n then walk w e (seg arr (off + i * e.sz) e.sz) (some (b, off + i * e.sz)) p else none
    | _ => none
  | _, _, _, _ => none

theorem okM_sh : ∀ t : Ty, okM t .sh = true
  | .int _ => rfl
  | .bool => rfl
  | .str => rfl
  | .sl _ => rfl
  | .unit => rfl
  | .pair a b => by simp [okM, Md.fst, Md.snd, okM_sh a, okM_sh b]

theorem walk_frame {w w' : World} {I : Nat → Prop} (hI : ∀ b, I b → w'.heap[b]? = w.heap[b]?) : ∀ (p : List Stp) {t : Ty} {m : Md} {cs : List Value} {x : t.den} {fp : List Nat} {l : Option (Nat × Nat)} {r},
    okM t m = true → Own w I t m cs x fp → (∀ b ∈ fp, w'.heap[b]? = w.heap[b]?) → walk w t cs l p = some r → walk w' t cs l p = some r := by
  intro p
  induction p with
  | nil => intro t m cs x fp l r ho h hf hw; cases t <;> simpa [walk] using hw
  | cons s p ih =>
    intro t m cs x fp l r ho h hf hw
    cases t with
    | pair a b =>
      obtain ⟨c1, c2, f1, f2, rfl, rfl, h1, h2⟩ := h
      have e1 := h1.len
      simp only [okM, Bool.and_eq_true] at ho
      cases s with
      | fst =>
        simp only [walk, List.take_left' e1] at hw ⊢
        exact ih ho.1 h1 (fun q hq => hf q (by simp [hq])) hw
      | snd =>
        simp only [walk, List.drop_left' e1] at hw ⊢
        exact ih ho.2 h2 (fun q hq => hf q (by simp [hq])) hw
      | idx i => simp [walk] at hw
    | sl e =>
      cases s with
      | fst => simp [walk] at hw
      | snd => simp [walk] at hw
      | idx i =>
        cases m with
        | sh =>
          obtain ⟨hl, rfl, A, c, rfl, _, h⟩ := h
          rcases h with rfl | ⟨b, off, arr, et, fr, rfl, hb, hi, h⟩
          · cases A with
            | none => simp [walk] at hw
            | some ad =>
              obtain ⟨b, off, sp⟩ := ad
              cases sp with
              | some _ => simp [walk] at hw
              | none =>
                simp only [walk] at hw
                split at hw
                · simp at hw
                · cases hw
          · simp only [walk, hb, hI b hi] at hw ⊢
            split at hw
            · rename_i hlt
              simp only [hlt, if_true]
              exact ih (okM_sh e) (h i hlt).2 (by simp) hw
            · cases hw
        | ow m' =>
          rcases h.2 with ⟨rfl, rfl, rfl⟩ | ⟨b, c, arr, et, fps, rfl, hb, h1, h2, h3, h4, rfl, hel⟩
          · simp [walk] at hw
          · simp only [walk, hb, hf b (by simp), Nat.zero_add] at hw ⊢
            split at hw
            · rename_i hlt
              simp only [hlt, if_true]
              exact ih (by simpa [okM] using ho) (hel i hlt) (fun q hq => hf q (List.mem_cons_of_mem _ (mem_flatten_getD.2 ⟨i, hq⟩))) hw
            · cases hw
        | no => simp [okM] at ho
        | pr _ _ => exact h.2.elim
        | np _ => exact h.2.elim
    | int k => simp [walk] at hw
    | bool => simp [walk] at hw
    | str => simp [walk] at hw
    | unit => simp [walk] at hw

theorem walk_idx {w : World} {e : Ty} {cs : List Value} {l : Option (Nat × Nat)} {i : Nat} {q : List Stp} {r} (h : walk w (.sl e) cs l (.idx i :: q) = some r) :
    ∃ b off n c arr et fr, cs = [.slice (some ⟨b, off, none⟩) n c] ∧ w.heap[b]? = some (.cells arr et fr) ∧ i < n ∧ walk w e (seg arr (off + i * e.sz) e.sz) (some (b, off + i * e.sz)) q = some r := by
  match cs, h with
  | [.slice (some ⟨b, off, none⟩) n c], h =>
    simp only [walk] at h
    split at h
    · rename_i arr et fr hb
      split at h
      · rename_i hlt
        exact ⟨b, off, n, c, arr, et, fr, rfl, hb, hlt, h⟩
      · cases h
    · cases h
  | [.slice (some ⟨b, off, some _⟩) n c], h => simp [walk] at h
  | [.slice none n c], h => simp [walk] at h
  | [.bool _], h => simp [walk] at h
  | [.int _ _], h => simp [walk] at h
  | [.float _ _], h => simp [walk] at h
  | [.complex _ _ _], h => simp [walk] at h
  | [.string _], h => simp [walk] at h
  | [.pointer _], h => simp [walk] at h
  | [.map _], h => simp [walk] at h
  | [.chan _], h => simp [walk] at h
  | [.func _ _ _], h => simp [walk] at h
  | [.nilFunc], h => simp [walk] at h
  | [.iface _ _], h => simp [walk] at h
  | [.nilIface], h => simp [walk] at h
  | [.agg _], h => simp [walk] at h
  | [.tuple _], h => simp [walk] at h
  | [], h => simp [walk] at h
  | _ :: _ :: _, h => simp [walk] at h
theorem walk_append {w : World} : ∀ {p : List Stp} {t : Ty} {cs : List Value} {l : Option (Nat × Nat)} {t' cs' l'} {q : List Stp}, walk w t cs l p = some (t', cs', l') → walk w t cs l (p ++ q) = walk w t' cs' l' q
  | [], t, cs, l, t', cs', l', q, h => by
    have : (t, cs, l) = (t', cs', l') := by cases t <;> simpa [walk] using h
    cases this; rfl
  | st :: p, t, cs, l, t', cs', l', q, h => by
    cases t with
    | pair a b =>
      cases st with
      | fst => simp only [walk, List.cons_append] at h ⊢; exact walk_append h
      | snd => simp only [walk, List.cons_append] at h ⊢; exact walk_append h
      | idx i => simp [walk] at h
    | sl e =>
      cases st with
      | fst => simp [walk] at h
      | snd => simp [walk] at h
      | idx i =>
        obtain ⟨b, off, n, c, arr, et, fr, rfl, hb, hlt, h⟩ := walk_idx h
        rw [List.cons_append, walk, hb]
        simp only [hlt, if_true]
        exact walk_append h
    | int k => simp [walk] at h
    | bool => simp [walk] at h
    | str => simp [walk] at h
    | unit => simp [walk] at h
abbrev S := Alg.std
theorem getL_std {α : Type} (l : List α) (i : Nat) (d : α) (h : i < l.length) : Alg.std.getL l i d = l[i] := by simp [Alg.std, h]

/-- What is at a place. -/
theorem Own.get {w : World} {I : Nat → Prop} : ∀ (p : List Stp) {t : Ty} {m : Md} {cs : List Value} {x : t.den} {fp : List Nat} {l l' : Option (Nat × Nat)} {t' t2 : Ty} {m' : Md} {x' : t'.den} {cs' : List Value},
    Own w I t m cs x fp → getAt Alg.std t m x p = some ⟨t', m', x'⟩ → walk w t cs l p = some (t2, cs', l') → t2 = t' ∧ ∃ fp', Own w I t' m' cs' x' fp' ∧ ∀ b ∈ fp', b ∈ fp := by
  intro p
  induction p with
  | nil =>
    intro t m cs x fp l l' t' t2 m' x' cs' h hg hw
    have e1 : (⟨t, m, x⟩ : (t : Ty) × Md × t.den) = ⟨t', m', x'⟩ := by cases t <;> simpa [getAt] using hg
    have e2 : (t, cs, l) = (t2, cs', l') := by cases t <;> simpa [walk] using hw
    cases e1
    cases e2
    exact ⟨rfl, fp, h, fun _ hb => hb⟩
  | cons s p ih =>
    intro t m cs x fp l l' t' t2 m' x' cs' h hg hw
    cases t with
    | pair a b =>
      obtain ⟨c1, c2, f1, f2, rfl, rfl, h1, h2⟩ := h
      have e1 := h1.len
      cases s with
      | fst =>
        simp only [walk, List.take_left' e1] at hw
        simp only [getAt] at hg
        obtain ⟨e, fp', ho, hs⟩ := ih h1 hg hw
        exact ⟨e, fp', ho, fun q hq => List.mem_append_left _ (hs q hq)⟩
      | snd =>
        simp only [walk, List.drop_left' e1] at hw
        simp only [getAt] at hg
        obtain ⟨e, fp', ho, hs⟩ := ih h2 hg hw
        exact ⟨e, fp', ho, fun q hq => List.mem_append_right _ (hs q hq)⟩
      | idx i => simp [walk] at hw
    | sl e =>
      cases s with
      | fst => simp [walk] at hw
      | snd => simp [walk] at hw
      | idx i =>
        cases m with
        | ow m' =>
          rcases h.2 with ⟨rfl, rfl, rfl⟩ | ⟨b, c, arr, et, fps, rfl, hb, h1, h2, h3, h4, rfl, hel⟩
          · simp [walk] at hw
          · simp only [walk, hb, Nat.zero_add] at hw
            split at hw
            · rename_i hlt
              simp only [getAt, getL_std _ _ _ hlt] at hg
              obtain ⟨e, fp', ho, hs⟩ := ih (hel i hlt) hg hw
              exact ⟨e, fp', ho, fun q hq => List.mem_cons_of_mem _ (mem_flatten_getD.2 ⟨i, hs q hq⟩)⟩
            · cases hw
        | sh => simp [getAt] at hg
        | no => simp [getAt] at hg
        | pr _ _ => simp [getAt] at hg
        | np _ => simp [getAt] at hg
    | int k => simp [walk] at hw
    | bool => simp [walk] at hw
    | str => simp [walk] at hw
    | unit => simp [walk] at hw

end Go.Vee

set_option linter.unusedSimpArgs false
set_option linter.unusedVariables false
namespace Go.Vee
open Go

/-- The same row of cells but for those from 'off' on, 'n' of them. -/
structure Near (arr arr1 : Array Value) (off n : Nat) : Prop where
  size : arr1.size = arr.size
  same : ∀ i, (i < off ∨ off + n ≤ i) → arr1[i]? = arr[i]?

theorem Near.seg {arr arr1 : Array Value} {off n i k : Nat} (h : Near arr arr1 off n) (hd : i + k ≤ off ∨ off + n ≤ i) : seg arr1 i k = seg arr i k := by
  apply List.ext_getElem?
  intro j
  by_cases hj : j < k
  · rw [seg_get hj, seg_get hj, h.same _ (by omega)]
  · simp [Go.Vee.seg, List.getElem?_take, hj]

theorem seg_split {arr : Array Value} {off a b : Nat} : seg arr off (a + b) = seg arr off a ++ seg arr (off + a) b := by
  simp only [seg]
  rw [List.take_add, List.drop_drop]

/-- What a place in an owned value is, and how the value looks when the place is given something else. -/
theorem Own.lens {w : World} {I : Nat → Prop} : ∀ (p : List Stp) {t : Ty} {m : Md} {cs : List Value} {x : t.den} {fp : List Nat} {b off : Nat} {arr : Array Value} {et : TypeId}
    {l' : Option (Nat × Nat)} {t' t2 : Ty} {m' : Md} {x' : t'.den} {cs' : List Value},
    w.heap[b]? = some (.cells arr et (0, 0)) → off + t.sz ≤ arr.size → cs = seg arr off t.sz → b ∉ fp → fp.Nodup →
    Own w I t m cs x fp → getAt Alg.std t m x p = some ⟨t', m', x'⟩ → walk w t cs (some (b, off)) p = some (t2, cs', l') →
    ∃ b' off' fp1 arr0 et0, l' = some (b', off') ∧ t2 = t' ∧ Own w I t' m' cs' x' fp1 ∧ fp1.Nodup ∧ (∀ k ∈ fp1, k ∈ fp) ∧ b' ∉ fp1 ∧
      (b' = b ∧ off ≤ off' ∧ off' + t'.sz ≤ off + t.sz ∨ b' ∈ fp) ∧
      w.heap[b']? = some (.cells arr0 et0 (0, 0)) ∧ cs' = seg arr0 off' t'.sz ∧ off' + t'.sz ≤ arr0.size ∧
      ∀ (w' : World) (I' : Nat → Prop) (arr1 : Array Value) (et1 : TypeId) (y : t'.den) (fp2 : List Nat) (x2 : t.den),
        (∀ k, I k → w'.heap[k]? = w.heap[k]?) → (∀ k, I k → I' k) →
        (∀ k, k ≠ b' → ((k ∈ fp ∧ k ∉ fp1) ∨ k = b) → w'.heap[k]? = w.heap[k]?) →
        w'.heap[b']? = some (.cells arr1 et1 (0, 0)) → Near arr0 arr1 off' t'.sz →
        Own w' I' t' m' (seg arr1 off' t'.sz) y fp2 → fp2.Nodup → (∀ k ∈ fp2, k ∈ fp → k ∈ fp1) → b ∉ fp2 → b' ∉ fp2 →
        setAt Alg.std t m x p t' m' y = some x2 →
        ∃ fp3 arrb etb, w'.heap[b]? = some (.cells arrb etb (0, 0)) ∧ Near arr arrb off t.sz ∧ Own w' I' t m (seg arrb off t.sz) x2 fp3 ∧ fp3.Nodup ∧
          ∀ k ∈ fp3, (k ∈ fp ∧ k ∉ fp1) ∨ k ∈ fp2 := by
  intro p
  induction p with
  | nil =>
    intro t m cs x fp b off arr et l' t' t2 m' x' cs' hb hsz hcs hbf hnd h hg hw
    have e1 : (⟨t, m, x⟩ : (t : Ty) × Md × t.den) = ⟨t', m', x'⟩ := by cases t <;> simpa [getAt] using hg
    have e2 : (t, cs, some (b, off)) = (t2, cs', l') := by cases t <;> simpa [walk] using hw
    cases e1
    cases e2
    refine ⟨b, off, fp, arr, et, rfl, rfl, h, hnd, fun _ hk => hk, hbf, .inl ⟨rfl, Nat.le_refl _, Nat.le_refl _⟩, hb, hcs, hsz, ?_⟩
    intro w' I' arr1 et1 y fp2 x2 hI hII hk hb1 hn ho hnd2 hd hb2 _ hs
    have hx : x2 = y := by
      have : setAt Alg.std t m x [] t m y = castD t t y := by cases t <;> simp [setAt]
      rw [this] at hs
      simpa [castD] using hs.symm
    subst hx
    exact ⟨fp2, arr1, et1, hb1, hn, ho, hnd2, fun k hk => .inr hk⟩
  | cons s p ih =>
    intro t m cs x fp b off arr et l' t' t2 m' x' cs' hb hsz hcs hbf hnd h hg hw
    cases t with
    | pair a c =>
      obtain ⟨c1, c2, f1, f2, rfl, rfl, h1, h2⟩ := h
      have e1 := h1.len
      have e2 := h2.len
      simp only [Ty.sz] at hsz hcs
      rw [seg_split] at hcs
      have hl1 : (seg arr off a.sz).length = a.sz := seg_length (by omega)
      obtain ⟨rfl, rfl⟩ := List.append_inj hcs (by omega)
      rw [List.nodup_append] at hnd
      obtain ⟨hn1, hn2, hn12⟩ := hnd
      have hb1 : b ∉ f1 := fun hh => hbf (List.mem_append_left _ hh)
      have hb2 : b ∉ f2 := fun hh => hbf (List.mem_append_right _ hh)
      cases s with
      | fst =>
        simp only [walk, List.take_left' e1] at hw
        simp only [getAt] at hg
        obtain ⟨b', off', fp1, arr0, et0, rfl, e, ho, hnd1, hsub, hbn, hwh, hh0, hcs', hsz', hlens⟩ := ih hb (by omega) rfl hb1 hn1 h1 hg hw
        refine ⟨b', off', fp1, arr0, et0, rfl, e, ho, hnd1, fun k hk => List.mem_append_left _ (hsub k hk), hbn, ?_, hh0, hcs', hsz', ?_⟩
        · rcases hwh with ⟨e, h3, h4⟩ | h3
          · exact .inl ⟨e, h3, by simp only [Ty.sz]; omega⟩
          · exact .inr (List.mem_append_left _ h3)
        · intro w' I' arr1 et1 y fp2 x2 hI hII hk hb1' hn ho' hnd2 hd hbb hbb' hs
          simp only [setAt] at hs
          split at hs
          · rename_i z hz
            cases hs
            obtain ⟨fp3, arrb, etb, g1, g2, g3, g4, g5⟩ := hlens w' I' arr1 et1 y fp2 z hI hII
              (fun k hkb hkk => hk k hkb (hkk.imp (fun q => ⟨List.mem_append_left _ q.1, q.2⟩) id)) hb1' hn ho' hnd2 (fun k hk2 hkf => hd k hk2 (List.mem_append_left _ hkf)) hbb hbb' hz
            have hf2 : ∀ q ∈ f2, w'.heap[q]? = w.heap[q]? := fun q hq => by
              refine hk q ?_ (.inl ⟨List.mem_append_right _ hq, fun hq1 => hn12 q (hsub q hq1) q hq rfl⟩)
              rintro rfl
              rcases hwh with ⟨e, _⟩ | h3
              · exact hb2 (e ▸ hq)
              · exact hn12 _ h3 _ hq rfl
            refine ⟨fp3 ++ f2, arrb, etb, g1, ⟨g2.size, fun i hi => g2.same i (by simp only [Ty.sz] at hi; omega)⟩, ?_, ?_, ?_⟩
            · simp only [Ty.sz]
              rw [seg_split]
              refine ⟨_, _, fp3, f2, rfl, rfl, g3, ?_⟩
              rw [g2.seg (i := off + a.sz) (k := c.sz) (by omega)]
              exact Own.frame hI hII h2 hf2
            · rw [List.nodup_append]
              refine ⟨g4, hn2, fun u hu v hv huv => ?_⟩
              subst huv
              rcases g5 u hu with hu1 | hu2
              · exact hn12 u hu1.1 u hv rfl
              · exact hn12 u (hsub u (hd u hu2 (List.mem_append_right _ hv))) u hv rfl
            · intro k hk3
              rcases List.mem_append.1 hk3 with hk3 | hk3
              · exact (g5 k hk3).imp (fun q => ⟨List.mem_append_left _ q.1, q.2⟩) id
              · exact .inl ⟨List.mem_append_right _ hk3, fun hq1 => hn12 k (hsub k hq1) k hk3 rfl⟩
          · cases hs
      | snd =>
        simp only [walk, List.drop_left' e1, Option.map_some] at hw
        simp only [getAt] at hg
        obtain ⟨b', off', fp1, arr0, et0, rfl, e, ho, hnd1, hsub, hbn, hwh, hh0, hcs', hsz', hlens⟩ := ih hb (by omega) rfl hb2 hn2 h2 hg hw
        refine ⟨b', off', fp1, arr0, et0, rfl, e, ho, hnd1, fun k hk => List.mem_append_right _ (hsub k hk), hbn, ?_, hh0, hcs', hsz', ?_⟩
        · rcases hwh with ⟨e, h3, h4⟩ | h3
          · exact .inl ⟨e, by omega, by simp only [Ty.sz]; omega⟩
          · exact .inr (List.mem_append_right _ h3)
        · intro w' I' arr1 et1 y fp2 x2 hI hII hk hb1' hn ho' hnd2 hd hbb hbb' hs
          simp only [setAt] at hs
          split at hs
          · rename_i z hz
            cases hs
            obtain ⟨fp3, arrb, etb, g1, g2, g3, g4, g5⟩ := hlens w' I' arr1 et1 y fp2 z hI hII
              (fun k hkb hkk => hk k hkb (hkk.imp (fun q => ⟨List.mem_append_right _ q.1, q.2⟩) id)) hb1' hn ho' hnd2 (fun k hk2 hkf => hd k hk2 (List.mem_append_right _ hkf)) hbb hbb' hz
            have hf1 : ∀ q ∈ f1, w'.heap[q]? = w.heap[q]? := fun q hq => by
              refine hk q ?_ (.inl ⟨List.mem_append_left _ hq, fun hq1 => hn12 q hq q (hsub q hq1) rfl⟩)
              rintro rfl
              rcases hwh with ⟨e, _⟩ | h3
              · exact hb1 (e ▸ hq)
              · exact hn12 _ hq _ h3 rfl
            refine ⟨f1 ++ fp3, arrb, etb, g1, ⟨g2.size, fun i hi => g2.same i (by simp only [Ty.sz] at hi; omega)⟩, ?_, ?_, ?_⟩
            · simp only [Ty.sz]
              rw [seg_split]
              refine ⟨_, _, f1, fp3, rfl, rfl, ?_, g3⟩
              rw [g2.seg (i := off) (k := a.sz) (by omega)]
              exact Own.frame hI hII h1 hf1
            · rw [List.nodup_append]
              refine ⟨hn1, g4, fun u hu v hv huv => ?_⟩
              subst huv
              rcases g5 u hv with hu1 | hu2
              · exact hn12 u hu u hu1.1 rfl
              · exact hn12 u hu u (hsub u (hd u hu2 (List.mem_append_left _ hu))) rfl
            · intro k hk3
              rcases List.mem_append.1 hk3 with hk3 | hk3
              · exact .inl ⟨List.mem_append_left _ hk3, fun hq1 => hn12 k hk3 k (hsub k hq1) rfl⟩
              · exact (g5 k hk3).imp (fun q => ⟨List.mem_append_right _ q.1, q.2⟩) id
          · cases hs
      | idx i => simp [walk] at hw
    | sl e =>
      cases s with
      | fst => simp [walk] at hw
      | snd => simp [walk] at hw
      | idx i =>
        cases m with
        | ow m1 =>
          rcases h.2 with ⟨rfl, rfl, rfl⟩ | ⟨b1, c, arrs, ets, fps, hc, hb1, h1, h2, h3, h4, rfl, hel⟩
          · simp [walk] at hw
          · subst hc
            simp only [walk, hb1, Nat.zero_add] at hw
            split at hw
            · rename_i hlt
              simp only [getAt, getL_std _ _ _ hlt] at hg
              rw [List.nodup_cons] at hnd
              obtain ⟨hb1n, hnf⟩ := hnd
              obtain ⟨hnj, hdj⟩ := nodup_flatten.1 hnf
              have hbne : b ≠ b1 := fun hh => hbf (by simp [hh])
              have hin : ∀ j, j < List.length x → j * e.sz + e.sz ≤ arrs.size := fun j hj => by
                have : (j + 1) * e.sz ≤ c * e.sz := Nat.mul_le_mul_right _ (by omega)
                rw [Nat.add_mul, Nat.one_mul] at this
                omega
              have hb1i : b1 ∉ fps.getD i [] := fun hh => hb1n (mem_flatten_getD.2 ⟨i, hh⟩)
              obtain ⟨b', off', fp1, arr0, et0, rfl, ee, ho, hnd1, hsub, hbn, hwh, hh0, hcs', hsz', hlens⟩ := ih hb1 (hin i hlt) rfl hb1i (hnj i) (hel i hlt) hg hw
              have hbb'0 : b' ≠ b := by
                rintro rfl
                rcases hwh with ⟨e, _⟩ | h5
                · exact hbne e
                · exact hbf (List.mem_cons_of_mem _ (mem_flatten_getD.2 ⟨i, h5⟩))
              refine ⟨b', off', fp1, arr0, et0, rfl, ee, ho, hnd1, fun k hk => List.mem_cons_of_mem _ (mem_flatten_getD.2 ⟨i, hsub k hk⟩), hbn, ?_, hh0, hcs', hsz', ?_⟩
              · rcases hwh with ⟨e, _⟩ | h5
                · exact .inr (by simp [e])
                · exact .inr (List.mem_cons_of_mem _ (mem_flatten_getD.2 ⟨i, h5⟩))
              · intro w' I' arr1 et1 y fp2 x2 hI hII hk hb1' hn ho' hnd2 hd hbb hbb' hs
                simp only [setAt, getL_std _ _ _ hlt] at hs
                split at hs
                · rename_i z hz
                  cases hs
                  have hb1fp1 : b1 ∉ fp1 := fun hh => hb1i (hsub _ hh)
                  have hb1fp2 : b1 ∉ fp2 := fun hh => hb1fp1 (hd b1 hh (by simp))
                  obtain ⟨fp3, arrb, etb, g1, g2, g3, g4, g5⟩ := hlens w' I' arr1 et1 y fp2 z hI hII
                    (fun k hkb hkk => hk k hkb (.inl (by
                      rcases hkk with q | q
                      · exact ⟨List.mem_cons_of_mem _ (mem_flatten_getD.2 ⟨i, q.1⟩), q.2⟩
                      · subst q; exact ⟨by simp, hb1fp1⟩)))
                    hb1' hn ho' hnd2 (fun k hk2 hkf => hd k hk2 (List.mem_cons_of_mem _ (mem_flatten_getD.2 ⟨i, hkf⟩))) hb1fp2 hbb' hz
                  have hetb : w'.heap[b]? = some (.cells arr et (0, 0)) := (hk b (Ne.symm hbb'0) (.inr rfl)).trans hb
                  have hb3 : b1 ∉ fp3 := fun hh => by
                    rcases g5 b1 hh with q | q
                    · exact hb1i q.1
                    · exact hb1fp2 q
                  have hfi : i < fps.length := by omega
                  have hzero : (arrb.size = c * e.sz) := by rw [g2.size, h3]
                  refine ⟨b1 :: (fps.set i fp3).flatten, arr, et, hetb, ⟨rfl, fun _ _ => rfl⟩, ?_, ?_, ?_⟩
                  · refine ⟨by simpa [Alg.std] using h.1, .inr ⟨b1, c, arrb, etb, fps.set i fp3, ?_, g1, by simpa [Alg.std] using h1, h2, hzero, by simp [Alg.std, h4], rfl, ?_⟩⟩
                    · rw [← hcs]; simp [Alg.std]
                    · intro j hj
                      have hj' : j < List.length x := by simpa [Alg.std] using hj
                      rw [getD_set hfi]
                      by_cases hji : j = i
                      · subst hji
                        simp only [if_true]
                        have : (Alg.std.setL x j z)[j]'hj = z := by simp [Alg.std]
                        rw [this]
                        exact g3
                      · simp only [hji, if_false]
                        have : (Alg.std.setL x i z)[j]'hj = x[j]'hj' := by simp [Alg.std, Ne.symm hji]
                        rw [this]
                        have hsg : seg arrb (j * e.sz) e.sz = seg arrs (j * e.sz) e.sz := by
                          refine g2.seg ?_
                          rcases Nat.lt_or_gt_of_ne hji with q | q
                          · left
                            have : (j + 1) * e.sz ≤ i * e.sz := Nat.mul_le_mul_right _ q
                            rw [Nat.add_mul, Nat.one_mul] at this
                            exact this
                          · right
                            have : (i + 1) * e.sz ≤ j * e.sz := Nat.mul_le_mul_right _ q
                            rw [Nat.add_mul, Nat.one_mul] at this
                            exact this
                        rw [hsg]
                        refine Own.frame hI hII (hel j hj') fun q hq => hk q ?_ (.inl ⟨List.mem_cons_of_mem _ (mem_flatten_getD.2 ⟨j, hq⟩), fun hq1 => hdj j i hji q hq (hsub q hq1)⟩)
                        rintro rfl
                        rcases hwh with ⟨e, _⟩ | h5
                        · exact hb1n (mem_flatten_getD.2 ⟨j, e ▸ hq⟩)
                        · exact hdj j i hji _ hq h5
                  · rw [List.nodup_cons]
                    refine ⟨fun hh => ?_, nodup_flatten.2 ⟨fun j => ?_, fun j k hjk q hq hq2 => ?_⟩⟩
                    · obtain ⟨j, hj⟩ := mem_flatten_getD.1 hh
                      rw [getD_set hfi] at hj
                      split at hj
                      · exact hb3 hj
                      · exact hb1n (mem_flatten_getD.2 ⟨j, hj⟩)
                    · rw [getD_set hfi]
                      split
                      · exact g4
                      · exact hnj j
                    · rw [getD_set hfi] at hq hq2
                      have key : ∀ j, j ≠ i → q ∈ fp3 → q ∉ fps.getD j [] := fun j hji h3 hj => by
                        rcases g5 q h3 with r | r
                        · exact hdj i j (Ne.symm hji) q r.1 hj
                        · exact hdj i j (Ne.symm hji) q (hsub q (hd q r (List.mem_cons_of_mem _ (mem_flatten_getD.2 ⟨j, hj⟩)))) hj
                      split at hq
                      · split at hq2
                        · omega
                        · exact key k (by assumption) hq hq2
                      · split at hq2
                        · exact key j (by assumption) hq2 hq
                        · exact hdj j k hjk q hq hq2
                  · intro k hk3
                    rcases List.mem_cons.1 hk3 with rfl | hk3
                    · exact .inl ⟨by simp, hb1fp1⟩
                    · obtain ⟨j, hj⟩ := mem_flatten_getD.1 hk3
                      rw [getD_set hfi] at hj
                      split at hj
                      · exact (g5 k hj).imp (fun q => ⟨List.mem_cons_of_mem _ (mem_flatten_getD.2 ⟨i, q.1⟩), q.2⟩) id
                      · rename_i hji
                        exact .inl ⟨List.mem_cons_of_mem _ (mem_flatten_getD.2 ⟨j, hj⟩), fun hq1 => hdj j i hji k hj (hsub k hq1)⟩
                · cases hs
            · cases hw
        | sh => simp [getAt] at hg
        | no => simp [getAt] at hg
        | pr _ _ => simp [getAt] at hg
        | np _ => simp [getAt] at hg
    | int k => simp [walk] at hw
    | bool => simp [walk] at hw
    | str => simp [walk] at hw
    | unit => simp [walk] at hw

end Go.Vee

