/-
  What is proved here: the definitions of an evaluator of the program's code over immutable data, and that its single operations on data and memory tell what the model does. Conditions: those that stand at each theorem.
-/
import Derived.WalkKit
import Derived.Laws.Externs
import Derived.Lib.Join

namespace Go.Dv
open Go

/-- Immutable data. A slice is its elements, each a row of cells; 'z': cells an element. A struct or an array is its cells, flat. -/
inductive V where
  | lit (v : Value)
  | sl (z : Nat) (es : List (List V))
  | agg (cs : List V)
  deriving Inhabited

/-- What a slot holds. -/
inductive X where
  | undef
  | v (x : V)
  | nil (z : Nat)
  | lent (z : Nat) (es : List (List V))
  | ro (cs : List V)
  | addr (s g off : Nat)
  | elt (s g i off : Nat)
  | own (s g lo n : Nat)
  | bsl (s g n : Nat)
  | mapr (s g : Nat)
  | clo (f : FuncId) (caps : List X)
  | tup (xs : List X)
  deriving Inhabited

/-- An object of the frame's own, by the site that made it. -/
inductive Ob where
  | none (g : Nat)
  | box (g : Nat) (cs : List X)
  | row (g : Nat) (mt : Bool) (z : Nat) (es : List (List V))
  | mp (g : Nat) (es : List (Value × V))
  deriving Inhabited

def Ob.gen : Ob → Nat
  | .none g => g
  | .box g _ => g
  | .row g _ _ _ => g
  | .mp g _ => g

/-- A step over the objects. -/
inductive Ef (α : Type) where
  | ret (a : α)
  | fail
  | get (s : Nat) (k : Ob → Ef α)
  | put (s : Nat) (o : Ob) (k : Ef α)

/-- A function, but for one place. -/
def upd {α : Type} (f : Nat → α) (i : Nat) (x : α) : Nat → α := fun j => if j = i then x else f j

/-- What a step answers, what it leaves, which objects it read, which it wrote. -/
def Ef.run {α : Type} : Ef α → (Nat → Ob) → Option (α × (Nat → Ob) × List Nat × List Nat)
  | .ret a, H => some (a, H, [], [])
  | .fail, _ => .none
  | .get s k, H =>
    match (k (H s)).run H with
    | some (a, H', r, w) => some (a, H', s :: r, w)
    | .none => .none
  | .put s o k, H =>
    match k.run (upd H s o) with
    | some (a, H', r, w) => some (a, H', r, s :: w)
    | .none => .none

/-- What of a type is looked at; kd: 0 unknown, 1 a value of one cell, 2 a struct or an array. -/
structure TI where
  und : TypeDesc
  size : Nat
  bytes : Nat
  kd : Nat
  zero : Option (List X)
  deriving Inhabited

inductive Res where
  | ret (vs : List V)
  | pan (v : V)

abbrev Call1 := FuncId → List X → List (List V) → Option (Res × List (List V))

/-- What of the program the evaluator looks at. -/
structure Lite where
  ty : List TI
  fn : List (Option Func)
  frz : List FuncId
  eqt : List (TypeId × List Nat)
  /-- Functions without a body that look for a byte in a string. -/
  xb : List FuncId := []
  /-- Functions that join strings. -/
  jn : List FuncId := []
  /-- Functions that keep an array in a new variable and answer a function over it. -/
  its : List (FuncId × (FuncId × Nat)) := []
  /-- Slices whose cells hold own rows: what 'make' makes of these types is a box. -/
  mats : List TypeId := []
  /-- Places at which 'make' takes one of three sites in turn. -/
  rots : List (TypeId × Option Nat) := []
  /-- Memory that lies before every call, and stays: package variables that are never written. -/
  gm : Nat → Nat → Option Value := fun _ _ => .none

def Lite.ti (L : Lite) (t : TypeId) : TI := L.ty.getD t { und := .invalid, size := 0, bytes := 0, kd := 0, zero := .none }

inductive Outc where
  | val (x : X)
  | pan (v : V)

/-! ### cells of values -/
def V.cells : V → List V
  | .agg cs => cs
  | x => [x]

def xv : X → Option V
  | .v x => some x
  | .nil z => some (.sl z [])
  | _ => .none

def xvs : List X → Option (List V)
  | [] => some []
  | x :: r => match xv x, xvs r with | some y, some ys => some (y :: ys) | _, _ => .none

/-- A value for immutable keeping; an own row is sealed. -/
def frz {α : Type} (x : X) (k : V → Ef α) : Ef α :=
  match x with
  | .v y => k y
  | .nil z => k (.sl z [])
  | .own s g lo n => .get s fun o =>
    match o with
    | .row g' mt z es => if g = g' then (if mt then .put s (.row g' false z es) (k (.sl z ((es.drop lo).take n))) else k (.sl z ((es.drop lo).take n))) else .fail
    | _ => .fail
  | _ => .fail

def frzs {α : Type} (xs : List X) (k : List V → Ef α) : Ef α :=
  match xs with
  | [] => k []
  | x :: r => frz x fun y => frzs r fun ys => k (y :: ys)

/-- The elements of a slice that is only read. -/
def rdSl {α : Type} (x : X) (k : Nat → List (List V) → Ef α) : Ef α :=
  match x with
  | .v (.sl z es) => k z es
  | .nil z => k z []
  | .lent z es => k z es
  | .own s g lo n => .get s fun o =>
    match o with
    | .row g' _ z es => if g = g' then k z ((es.drop lo).take n) else .fail
    | _ => .fail
  | _ => .fail

/-! ### operators -/
def cmpI (op : BinOp) (a b : Int) : Option Value :=
  match op with
  | .eql => some (.bool (a == b))
  | .neq => some (.bool (a != b))
  | .lss => some (.bool (a < b))
  | .leq => some (.bool (a ≤ b))
  | .gtr => some (.bool (a > b))
  | .geq => some (.bool (a ≥ b))
  | _ => .none

def bitI (op : BinOp) (k : IntKind) (x y : Int) : Option Value :=
  match op with
  | .and => some (.int k (k.wrap (BitVec.ofInt k.bits x &&& BitVec.ofInt k.bits y).toNat))
  | .or => some (.int k (k.wrap (BitVec.ofInt k.bits x ||| BitVec.ofInt k.bits y).toNat))
  | .xor => some (.int k (k.wrap (BitVec.ofInt k.bits x ^^^ BitVec.ofInt k.bits y).toNat))
  | .andNot => some (.int k (k.wrap (BitVec.ofInt k.bits x &&& ~~~(BitVec.ofInt k.bits y)).toNat))
  | _ => .none

def strOp (op : BinOp) (x y : ByteArray) : Option Value :=
  match op with
  | .add => if x.size + y.size ≤ 9223372036854775807 then some (.string (x ++ y)) else .none
  | .eql => some (.bool (x.toList == y.toList))
  | .neq => some (.bool !(x.toList == y.toList))
  | .lss => some (.bool (Go.Op.bytesLess x.toList y.toList))
  | .leq => some (.bool (Go.Op.bytesLess x.toList y.toList || x.toList == y.toList))
  | .gtr => some (.bool !(Go.Op.bytesLess x.toList y.toList || x.toList == y.toList))
  | .geq => some (.bool !(Go.Op.bytesLess x.toList y.toList))
  | _ => .none

def intOp (op : BinOp) (k : IntKind) (a : Int) (k' : IntKind) (b : Int) : Option Value :=
  match op with
  | .shl => if b < 0 then .none else some (.int k (k.wrap (a * 2 ^ (min b.toNat k.bits))))
  | .shr => if b < 0 then .none else some (.int k (a.fdiv (2 ^ (min b.toNat k.bits))))
  | .add => if k = k' then some (.int k (k.wrap (a + b))) else .none
  | .sub => if k = k' then some (.int k (k.wrap (a - b))) else .none
  | .mul => if k = k' then some (.int k (k.wrap (a * b))) else .none
  | .quo => if k = k' then (if b = 0 then .none else some (.int k (k.wrap (a.tdiv b)))) else .none
  | .rem => if k = k' then (if b = 0 then .none else some (.int k (a.tmod b))) else .none
  | .and => if k = k' then bitI .and k a b else .none
  | .or => if k = k' then bitI .or k a b else .none
  | .xor => if k = k' then bitI .xor k a b else .none
  | .andNot => if k = k' then bitI .andNot k a b else .none
  | op => if k = k' then cmpI op a b else .none

def boolOp (op : BinOp) (a b : Bool) : Option Value :=
  match op with
  | .eql => some (.bool (a == b))
  | .neq => some (.bool (a != b))
  | _ => .none

def litBin (op : BinOp) (x y : Value) : Option Value :=
  match x, y with
  | .int k a, .int k' b => intOp op k a k' b
  | .string a, .string b => strOp op a b
  | _, _ => .none

/-- '==' of cells that are numbers, bools, strings. -/
def eqCell : V → V → Option Bool
  | .lit (.int k a), .lit (.int k' b) => if k = k' then some (a == b) else .none
  | .lit (.bool a), .lit (.bool b) => some (a == b)
  | .lit (.string a), .lit (.string b) => some (a == b)
  | _, _ => .none

/-- The kind of a literal, for comparing. -/
def litK : V → Nat
  | .lit (.int _ _) => 1
  | .lit (.bool _) => 2
  | .lit (.string _) => 3
  | _ => 0

def eqCells : List V → List V → Option Bool
  | [], [] => some true
  | a :: x, b :: y => match eqCell a b, eqCells x y with | some p, some q => some (p && q) | _, _ => .none
  | _, _ => .none

def litUn (op : UnOp) (x : Value) : Option Value :=
  match op, x with
  | .neg, .int k n => some (.int k (k.wrap (0 - n)))
  | .xor, .int k n => bitI .xor k (if k.signed then -1 else k.max) n
  | .not, .bool b => some (.bool !b)
  | _, _ => .none

def bytesOf : List (List V) → Option (List UInt8)
  | [] => some []
  | [.lit (.int .u8 n)] :: r => match bytesOf r with | some l => some (UInt8.ofNat n.toNat :: l) | .none => .none
  | _ => .none

def elemsOf (s : ByteArray) : List (List V) := s.data.toList.map fun b => [V.lit (.int .u8 b.toNat)]

def ov {α β : Type} (x : Option α) (k : α → Ef β) : Ef β := match x with | some a => k a | .none => .fail

/-- A whole number out of a slot. -/
def num {α : Type} (x : X) (k : Int → Ef α) : Ef α := match x with | .v (.lit (.int _ n)) => k n | _ => .fail

def setRange (cs : List X) (off : Nat) : List X → List X
  | [] => cs
  | x :: r => setRange (cs.set off x) (off + 1) r

def setRangeV (cs : List V) (off : Nat) : List V → List V
  | [] => cs
  | x :: r => setRangeV (cs.set off x) (off + 1) r

def fillV (place : Nat → Option (Nat × Nat)) (cells : List V) : List (Nat × V) → Option (List V)
  | [] => some cells
  | (i, v) :: rest =>
    match place i with
    | .none => .none
    | some (off, size) => if v.cells.length = size ∧ off + size ≤ cells.length then fillV place (setRangeV cells off v.cells) rest else .none

def big : Nat := 4294967296

/-- Own rows among a call's arguments that are handed over for good. -/
def frzOwn {α : Type} : List X → (List X → Ef α) → Ef α
  | [], k => k []
  | x :: r, k =>
    match x with
    | .own s g lo n => frz (.own s g lo n) fun y => frzOwn r fun xs => k (.v y :: xs)
    | x => frzOwn r fun xs => k (x :: xs)

/-- What the callee is given; which boxes it may write, and what they hold. -/
def hand {α : Type} (n : Nat) : List X → List Nat → List (List V) → (List X → List Nat → List (List V) → Ef α) → Ef α
  | [], ss, cs, k => k [] ss cs
  | x :: r, ss, cs, k =>
    match x with
    | .v y => hand n r ss cs fun as ss' cs' => k (.v y :: as) ss' cs'
    | .nil z => hand n r ss cs fun as ss' cs' => k (.v (.sl z []) :: as) ss' cs'
    | .lent z es => hand n r ss cs fun as ss' cs' => k (.lent z es :: as) ss' cs'
    | .clo f [] => hand n r ss cs fun as ss' cs' => k (.clo f [] :: as) ss' cs'
    | .own s g lo m => .get s fun o =>
      match o with
      | .row g' true z es => if g = g' then hand n r ss cs fun as ss' cs' => k (.lent z ((es.drop lo).take m) :: as) ss' cs' else .fail
      | .row g' false z es => if g = g' then hand n r ss cs fun as ss' cs' => k (.v (.sl z ((es.drop lo).take m)) :: as) ss' cs' else .fail
      | _ => .fail
    | .addr s g 0 => .get s fun o =>
      match o with
      | .box g' xs => if g = g' ∧ s ∉ ss then ov (xvs xs) fun ys => hand n r (ss ++ [s]) (cs ++ [ys]) fun as ss' cs' => k (.addr (n + ss.length) 0 0 :: as) ss' cs' else .fail
      | _ => .fail
    | _ => .fail

def putAll {α : Type} : List Nat → List (List V) → Ef α → Ef α
  | [], [], k => k
  | s :: ss, c :: cs, k => .get s fun o => match o with | .box g _ => .put s (.box g (c.map X.v)) (putAll ss cs k) | _ => .fail
  | _, _, _ => .fail

def resX : List V → X
  | [v] => .v v
  | vs => .tup (vs.map X.v)

def callF (L : Lite) (call : Call1) (f : FuncId) (xs : List X) : Ef Outc :=
  match L.fn.getD f .none with
  | .none => .fail
  | some fn =>
    (if L.frz.contains f then frzOwn xs else fun k => k xs) fun xs =>
    hand fn.ntmps xs [] [] fun args ss cs =>
      match call f args cs with
      | .none => .fail
      | some (.ret vs, cs') => putAll ss cs' (.ret (.val (resX vs)))
      | some (.pan v, cs') => putAll ss cs' (.ret (.pan v))

end Go.Dv

namespace Go.Dv
open Go

structure St where
  n : Nat
  sl : Nat → X
  ob : Nat → Ob

def isNilSl : Value → Bool
  | .slice .none 0 0 => true
  | _ => false

/-- A value that fills one cell. -/
def scal : Value → Bool
  | .agg _ => false
  | .tuple _ => false
  | _ => true

def V.flat : V → Bool
  | .agg _ => false
  | _ => true

def cellX : X → Bool
  | .v (.agg _) => false
  | .v _ => true
  | .nil _ => true
  | .addr _ _ _ => true
  | .elt _ _ _ _ => true
  | .own _ _ _ _ => true
  | .bsl _ _ _ => true
  | .mapr _ _ => true
  | .clo _ _ => true
  | _ => false

def St.opd (r : St) : Operand → X
  | .tmp t => r.sl t
  | .const v => if isNilSl v then .nil 0 else if scal v then .v (.lit v) else .undef
  | .global _ => .undef
  | .func f => .clo f []

/-- The next number of site d. -/
def nextGen {α : Type} (d : Option Nat) (k : Nat → Nat → Ef α) : Ef α :=
  match d with
  | some d => .get d fun o => k d (o.gen + 1)
  | .none => .fail

/-- The oldest of three sites. -/
def rotGen {α : Type} (d : Option Nat) (k : Nat → Nat → Ef α) : Ef α :=
  match d with
  | some (d + 2) => .get (d + 2) fun o0 => .get (d + 1) fun o1 => .get d fun o2 =>
    if o0.gen ≤ o1.gen ∧ o0.gen ≤ o2.gen then k (d + 2) (o0.gen + 1) else if o1.gen ≤ o2.gen then k (d + 1) (o1.gen + 1) else k d (o2.gen + 1)
  | _ => .fail

def makeGen {α : Type} (L : Lite) (t : TypeId) (d : Option Nat) (k : Nat → Nat → Ef α) : Ef α :=
  if L.rots.contains (t, d) then rotGen d k else nextGen d k

abbrev ok (y : X) : Ef Outc := .ret (.val y)
abbrev okv (y : V) : Ef Outc := .ret (.val (.v y))
abbrev okl (y : Value) : Ef Outc := .ret (.val (.v (.lit y)))

/-- A nil slice that is moved takes its element's size from the type. -/
def retype (L : Lite) (t : TypeId) (x : X) : X :=
  match x with
  | .nil z => match (L.ti t).und with | .slice e => .nil (L.ti e).size | _ => .nil z
  | y => y

def loadC (L : Lite) (t : TypeId) (cs : List X) (off : Nat) : Ef Outc :=
  if (L.ti t).kd = 2 then
    if off + (L.ti t).size ≤ cs.length then ov (xvs ((cs.drop off).take (L.ti t).size)) fun ys => okv (.agg ys) else .fail
  else if (L.ti t).kd = 1 then ov cs[off]? ok else .fail

def loadV (L : Lite) (t : TypeId) (cs : List V) (off : Nat) : Ef Outc :=
  if (L.ti t).kd = 2 then
    if off + (L.ti t).size ≤ cs.length then okv (.agg ((cs.drop off).take (L.ti t).size)) else .fail
  else if (L.ti t).kd = 1 then ov cs[off]? okv else .fail

def actLoad (L : Lite) (t : TypeId) (x : X) : Ef Outc :=
  match x with
  | .addr s g off => .get s fun o => match o with | .box g' cs => if g = g' then loadC L t cs off else .fail | _ => .fail
  | .elt s g i off => .get s fun o => match o with
    | .row g' _ _ es => if g = g' then (match es[i]? with | some e => loadV L t e off | .none => .fail) else .fail
    | _ => .fail
  | .ro cs => loadV L t cs 0
  | _ => .fail

/-- The cells that a value of type t fills. -/
def cellsX (L : Lite) (t : TypeId) (x : X) : Option (List X) :=
  if (L.ti t).kd = 2 then match x with
    | .v (.agg ys) => if ys.length = (L.ti t).size then some (ys.map .v) else .none
    | _ => .none
  else if (L.ti t).kd = 1 ∧ (L.ti t).size = 1 then (if cellX x then some [x] else .none) else .none

def cellsV (L : Lite) (t : TypeId) (x : V) : Option (List V) :=
  if (L.ti t).kd = 2 then match x with
    | .agg ys => if ys.length = (L.ti t).size then some ys else .none
    | _ => .none
  else if (L.ti t).kd = 1 ∧ (L.ti t).size = 1 then (if x.flat then some [x] else .none) else .none

def actStore (L : Lite) (t : TypeId) (a : X) (x : X) : Ef Outc :=
  match a with
  | .addr s g off => .get s fun o => match o with
    | .box g' cs => if g = g' then ov (cellsX L t (retype L t x)) fun ys => if off + ys.length ≤ cs.length then .put s (.box g' (setRange cs off ys)) (ok .undef) else .fail else .fail
    | _ => .fail
  | .elt s g i off => frz (retype L t x) fun y => .get s fun o => match o with
    | .row g' true z es => if g = g' then ov (cellsV L t y) fun ys => match es[i]? with
        | some e => if off + ys.length ≤ e.length then .put s (.row g' true z (es.set i (setRangeV e off ys))) (ok .undef) else .fail
        | .none => .fail
      else .fail
    | _ => .fail
  | _ => .fail

def actField (L : Lite) (t : TypeId) (x : X) (f : Nat) : Ef Outc :=
  match x, (L.ti t).und with
  | .v (.agg cs), .struct fs => match fs[f]? with | some fd => loadV L fd.type cs fd.offset | .none => .fail
  | _, _ => .fail

def shift (x : X) (n : Nat) : Ef Outc :=
  match x with
  | .addr s g off => ok (.addr s g (off + n))
  | .elt s g i off => ok (.elt s g i (off + n))
  | .ro cs => ok (.ro (cs.drop n))
  | _ => .fail

def actFieldAddr (L : Lite) (t : TypeId) (x : X) (f : Nat) : Ef Outc :=
  match (L.ti t).und with
  | .struct fs => match fs[f]? with | some fd => if (L.ti fd.type).size = 0 then .fail else shift x fd.offset | .none => .fail
  | _ => .fail

def actIndexAddr (L : Lite) (t : TypeId) (x i : X) : Ef Outc :=
  num i fun n =>
  match (L.ti t).und with
  | .slice e => match x with
    | .v (.sl z es) | .lent z es => if z = (L.ti e).size then (if 0 ≤ n then ov es[n.toNat]? fun c => ok (.ro c) else .fail) else .fail
    | .own s g lo m => .get s fun o => match o with
      | .row g' _ z _ => if g = g' ∧ z = (L.ti e).size then (if 0 ≤ n ∧ n < (m : Int) then ok (.elt s g (lo + n.toNat) 0) else .fail) else .fail
      | _ => .fail
    | .bsl s g m => if (L.ti e).size = 1 ∧ 0 ≤ n ∧ n < (m : Int) then ok (.addr s g n.toNat) else .fail
    | _ => .fail
  | .array len e => if 0 ≤ n ∧ n < (len : Int) then shift x (n.toNat * (L.ti e).size) else .fail
  | _ => .fail

def actIndex (L : Lite) (t : TypeId) (x i : X) : Ef Outc :=
  num i fun n =>
  match x, (L.ti t).und with
  | .v (.agg cs), .array len e => if 0 ≤ n ∧ n < (len : Int) then loadV L e cs (n.toNat * (L.ti e).size) else .fail
  | .v (.lit (.string s)), .string => if 0 ≤ n then ov s[n.toNat]? fun b => okl (.int .u8 b.toNat) else .fail
  | _, _ => .fail

def bounds (n : Int) (lo hi : Option X) (k : Nat → Nat → Ef Outc) : Ef Outc :=
  (match hi with | .none => fun (f : Int → Ef Outc) => f n | some h => num h) fun h =>
  (match lo with | .none => fun (f : Int → Ef Outc) => f 0 | some l => num l) fun l =>
  if 0 ≤ l ∧ l ≤ h ∧ h ≤ n then k l.toNat h.toNat else .fail

def actSlice (L : Lite) (t : TypeId) (x : X) (lo hi : Option X) : Ef Outc :=
  match (L.ti t).und with
  | .string => match x with
    | .v (.lit (.string s)) => bounds s.size lo hi fun l h => okl (.string (s.extract l h))
    | _ => .fail
  | .slice e => match x with
    | .v (.sl z es) => if z = (L.ti e).size then bounds es.length lo hi fun l h => okv (.sl z ((es.drop l).take (h - l))) else .fail
    | .lent z es => if z = (L.ti e).size then bounds es.length lo hi fun l h => ok (.lent z ((es.drop l).take (h - l))) else .fail
    | .nil z => bounds 0 lo hi fun _ _ => ok (.nil z)
    | .own s g lo' n => .get s fun o => match o with
      | .row g' _ z _ => if g = g' ∧ z = (L.ti e).size then bounds n lo hi fun l h => ok (.own s g (lo' + l) (h - l)) else .fail
      | _ => .fail
    | _ => .fail
  | _ => .fail

def actConvert (L : Lite) (src dst : TypeId) (x : X) : Ef Outc :=
  if (L.ti src).kd = 0 then .fail else
  match (L.ti dst).und with
  | .int k => match x with | .v (.lit (.int _ n)) => okl (.int k (k.wrap n)) | _ => .fail
  | .string => match x with
    | .v (.lit (.int _ n)) => okl (.string (Utf8.encode n))
    | .v (.lit (.string s)) => okl (.string s)
    | y => match (L.ti src).und with
      | .slice e => match (L.ti e).und with
        | .int .u8 => rdSl y fun _ es => ov (bytesOf es) fun l => okl (.string ⟨l.toArray⟩)
        | _ => .fail
      | _ => .fail
  | _ => .fail

def actBuild (L : Lite) (t : TypeId) (ps : List (Nat × X)) : Ef Outc :=
  ov (L.ti t).zero fun zx => ov (xvs zx) fun zero =>
  frzs (ps.map (·.2)) fun ys =>
  match (L.ti t).und with
  | .struct fs => ov (fillV (fun i => (fs[i]?).map fun f => (f.offset, (L.ti f.type).size)) zero ((ps.map (·.1)).zip ys)) fun cs => okv (.agg cs)
  | .array _ e => ov (fillV (fun i => some (i * (L.ti e).size, (L.ti e).size)) zero ((ps.map (·.1)).zip ys)) fun cs => okv (.agg cs)
  | _ => .fail

def setParts (es : List (List V)) : List (Nat × V) → Option (List (List V))
  | [] => some es
  | (i, v) :: r => match es[i]? with
    | some e => if v.cells.length = e.length then setParts (es.set i v.cells) r else .none
    | .none => .none

def actBuildSlice (L : Lite) (d : Option Nat) (t : TypeId) (len : Nat) (ps : List (Nat × X)) : Ef Outc :=
  match (L.ti t).und with
  | .slice e =>
    ov (L.ti e).zero fun zx => ov (xvs zx) fun zero =>
    frzs (ps.map (·.2)) fun ys =>
    ov (setParts (List.replicate len zero) ((ps.map (·.1)).zip ys)) fun es =>
    if len * (L.ti e).size ≤ 65536 then nextGen d fun d g => .put d (.row g true (L.ti e).size es) (ok (.own d g 0 len)) else .fail
  | _ => .fail

def actMake (L : Lite) (d : Option Nat) (t : TypeId) (x y : X) : Ef Outc :=
  match (L.ti t).und with
  | .slice e =>
    num x fun n => num y fun c =>
    ov (L.ti e).zero fun zx => ov (xvs zx) fun zero =>
    if n = c ∧ 0 ≤ n ∧ n ≤ (big : Int) ∧ (L.ti e).bytes ≤ 1024 then
      (if L.mats.contains t then match zx with
        | [x0] => nextGen d fun d g => .put d (.box g (List.replicate n.toNat x0)) (ok (.bsl d g n.toNat))
        | _ => .fail
      else makeGen L t d fun d g => .put d (.row g true (L.ti e).size (List.replicate n.toNat zero)) (ok (.own d g 0 n.toNat))) else .fail
  | _ => .fail

/-- The elements that an append brings. -/
def srcOf (x : X) (k : Nat → List (List V) → Ef Outc) : Ef Outc :=
  match x with
  | .v (.lit (.string s)) => k 1 (elemsOf s)
  | y => rdSl y k

/-- What is appended is a slice or a string. -/
def srcTy (L : Lite) (t : Option TypeId) : Bool :=
  match t with
  | some t => match (L.ti t).und with
    | .slice _ => true
    | .string => true
    | _ => false
  | .none => false

def actAppend (L : Lite) (d : Option Nat) (ts : Array TypeId) (x y : X) : Ef Outc :=
  match (ts[0]?).map fun t => (L.ti t).und with
  | some (.slice e) =>
    if srcTy L ts[1]? = false ∨ (L.ti e).zero.isSome = false then .fail else
    srcOf y fun z es' =>
    match x with
    | .nil _ => if (z = (L.ti e).size ∨ es' = []) ∧ es'.length ≤ big ∧ (L.ti e).bytes ≤ 1024 then
        (if es' = [] then ok (.nil (L.ti e).size) else nextGen d fun d g => .put d (.row g true (L.ti e).size es') (ok (.own d g 0 es'.length))) else .fail
    | .own s g 0 n => .get s fun o => match o with
      | .row g' mt z' es => if g = g' ∧ n = es.length ∧ z' = (L.ti e).size ∧ (z = z' ∨ es' = []) ∧ n + es'.length ≤ big ∧ (L.ti e).bytes ≤ 1024 then
          .put s (.row (g + 1) mt z' (es ++ es')) (ok (.own s (g + 1) 0 (n + es'.length))) else .fail
      | _ => .fail
    | _ => .fail
  | _ => .fail

def actCopy (L : Lite) (ts : Array TypeId) (x y : X) : Ef Outc :=
  match (ts[0]?).map fun t => (L.ti t).und with
  | some (.slice e) =>
    srcOf y fun z es' =>
    match x with
    | .own s g lo n => .get s fun o => match o with
      | .row g' true z' es => if g = g' ∧ z' = (L.ti e).size ∧ z = z' then
          .put s (.row g' true z' (es.take lo ++ es'.take n ++ es.drop (lo + min es'.length n))) (okl (.int .i64 (min es'.length n : Nat))) else .fail
      | _ => .fail
    | _ => .fail
  | _ => .fail

/-! ### maps of whole numbers' and strings' keys -/
def keyTy : TypeDesc → Bool
  | .int _ => true
  | .string => true
  | _ => false

/-- Where a key lies: none: that is not known. -/
def mpFind (kind : TypeDesc) (k : Value) : List (Value × V) → Nat → Option (Option (Nat × V))
  | [], _ => some .none
  | e :: es, i =>
    match Go.Instr.sameNow kind k e.1 with
    | some true => some (some (i, e.2))
    | some false => mpFind kind k es (i + 1)
    | .none => .none

def actMakeMap (L : Lite) (d : Option Nat) (t : TypeId) (hint : Option X) : Ef Outc :=
  match hint, (L.ti t).und with
  | .none, .map _ _ => nextGen d fun d g => .put d (.mp g []) (ok (.mapr d g))
  | _, _ => .fail

def zeroV (L : Lite) (t : TypeId) : Option V :=
  match (L.ti t).zero with
  | some zx => match xvs zx with
    | some zero => if (L.ti t).kd = 1 then zero.head? else .none
    | .none => .none
  | .none => .none

def actLookup (L : Lite) (t : TypeId) (x i : X) (commaOk : Bool) : Ef Outc :=
  match (L.ti t).und, x, i with
  | .map key elem, .mapr s g, .v (.lit k) => if keyTy (L.ti key).und then .get s fun o => match o with
    | .mp g' es => if g = g' then ov (mpFind (L.ti key).und k es 0) fun r => ov (match r with | some (_, v) => some (v, true) | .none => (zeroV L elem).map fun v => (v, false)) fun p =>
        ok (if commaOk then .tup [.v p.1, .v (.lit (.bool p.2))] else .v p.1) else .fail
    | _ => .fail
    else .fail
  | _, _, _ => .fail

def actMapUpdate (L : Lite) (t : TypeId) (x i y : X) : Ef Outc :=
  match (L.ti t).und, x, i with
  | .map key elem, .mapr s g, .v (.lit k) => if keyTy (L.ti key).und then frz (retype L elem y) fun v => .get s fun o => match o with
    | .mp g' es => if g = g' then ov (mpFind (L.ti key).und k es 0) fun r => match r with
        | some (j, _) => .put s (.mp g (es.set j (k, v))) (ok .undef)
        | .none => .put s (.mp g (es ++ [(k, v)])) (ok .undef)
      else .fail
    | _ => .fail
    else .fail
  | _, _, _ => .fail

def actLenMap (x : X) : Ef Outc :=
  match x with
  | .mapr s g => .get s fun o => match o with
    | .mp g' es => if g = g' then okl (.int .i64 es.length) else .fail
    | _ => .fail
  | _ => .fail

def actLen (L : Lite) (ts : Array TypeId) (x : X) : Ef Outc :=
  match (ts[0]?).map fun t => (L.ti t).und with
  | some .string => match x with
    | .v (.lit (.string s)) => okl (.int .i64 s.size)
    | _ => .fail
  | some (.slice _) => match x with
    | .v (.sl _ es) => okl (.int .i64 es.length)
    | .lent _ es => okl (.int .i64 es.length)
    | .nil _ => okl (.int .i64 0)
    | .own _ _ _ n => okl (.int .i64 n)
    | .bsl _ _ n => okl (.int .i64 n)
    | _ => .fail
  | some (.map _ _) => actLenMap x
  | _ => .fail

def intsOf : List X → Option (List (IntKind × Int))
  | [] => some []
  | .v (.lit (.int k n)) :: r => match intsOf r with | some l => some ((k, n) :: l) | .none => .none
  | _ => .none

def foldMM (mx : Bool) (k : IntKind) (a : Int) : List (IntKind × Int) → Int
  | [] => a
  | (_, b) :: r => foldMM mx k (if mx then (if b > a then b else a) else (if b < a then b else a)) r

def actMM (mx : Bool) (xs : List X) : Ef Outc :=
  match intsOf xs with
  | some ((k, a) :: r) => okl (.int k (foldMM mx k a r))
  | _ => .fail

def actBuiltin (L : Lite) (d : Option Nat) (b : Builtin) (ts : Array TypeId) (xs : List X) : Ef Outc :=
  match b, xs with
  | .len, [x] => actLen L ts x
  | .append, [x, y] => actAppend L d ts x y
  | .copy, [x, y] => actCopy L ts x y
  | .min, xs => actMM false xs
  | .max, xs => actMM true xs
  | _, _ => .fail

/-- The outcome of a comparison with nil. -/
def nilRes (op : BinOp) (b : Bool) : Ef Outc :=
  match op with
  | .eql => okl (.bool b)
  | .neq => okl (.bool !b)
  | _ => .fail

def actBin (L : Lite) (op : BinOp) (t : TypeId) (x y : X) : Ef Outc :=
  match x, y with
  | .v (.lit (.bool a)), .v (.lit (.bool b)) => match (L.ti t).und with
    | .bool => ov (boolOp op a b) okl
    | _ => .fail
  | .v (.lit a), .v (.lit b) => ov (litBin op a b) okl
  | .v (.agg a), .v (.agg b) => if L.eqt.lookup t = some (a.map litK) ∧ b.map litK = a.map litK then ov (eqCells a b) fun r =>
      match op with
      | .eql => okl (.bool r)
      | .neq => okl (.bool !r)
      | _ => .fail
    else .fail
  | .clo _ _, .v (.lit .nilFunc) => match (L.ti t).und with
    | .func _ _ _ => nilRes op false
    | _ => .fail
  | .nil _, .nil _ => match (L.ti t).und with
    | .slice _ => nilRes op true
    | _ => .fail
  | .own _ _ _ _, .nil _ => match (L.ti t).und with
    | .slice _ => nilRes op false
    | _ => .fail
  | _, _ => .fail

/-- A value of an interface type compared with the literal nil. -/
def actNil (L : Lite) (op : BinOp) (t : TypeId) (x : X) : Ef Outc :=
  match (L.ti t).und, x with
  | .interface _, .v (.lit .nilIface) => match op with
    | .eql => okl (.bool true)
    | .neq => okl (.bool false)
    | _ => .fail
  | .interface _, .v (.lit (.iface _ _)) => match op with
    | .eql => okl (.bool false)
    | .neq => okl (.bool true)
    | _ => .fail
  | _, _ => .fail

def isNilC : Operand → Bool
  | .const .nilIface => true
  | _ => false

/-- A number out of an interface value, where its type is the one that is asked for. -/
def actAssert (L : Lite) (t : TypeId) (commaOk : Bool) (x : X) : Ef Outc :=
  match commaOk, (L.ti t).und, x with
  | false, .int _, .v (.lit (.iface u (.int k n))) => if u = t then okl (.int k n) else .fail
  | _, _, _ => .fail

/-- Where a byte first lies in a string. -/
def actByteAt (xs : List X) : Ef Outc :=
  match xs with
  | [.v (.lit (.string s)), .v (.lit (.int .u8 c))] => okl (.int .i64 (firstIdx s c.toNat.toUInt8))
  | _ => .fail

/-- The function over an array that is kept. -/
def actIt (it : FuncId × Nat) (xs : List X) : Ef Outc :=
  match xs with
  | [.v (.agg cs)] => if cs.length = it.2 then ok (.clo it.1 [.ro cs]) else .fail
  | _ => .fail

def strsOf : List (List V) → Option (List ByteArray)
  | [] => some []
  | [.lit (.string s)] :: r => match strsOf r with
    | some l => some (s :: l)
    | .none => .none
  | _ => .none

/-- The strings of a slice, with a string between them. -/
def joinB (l : List ByteArray) (sep : ByteArray) : List UInt8 := Lib.join (l.map (·.data.toList)) sep.data.toList

def actJoin (xs : List X) : Ef Outc :=
  match xs with
  | [x, .v (.lit (.string sep))] => rdSl x fun _ es => ov (strsOf es) fun l =>
    if (joinB l sep).length ≤ 140737488355328 ∧ l.length ≤ 140737488355328 then okl (.string ⟨(joinB l sep).toArray⟩) else .fail
  | _ => .fail

/-- One operation; d: the slot that it writes (its site). -/
def act (L : Lite) (call : Call1) (d : Option Nat) (o : Oper) (r : Operand → X) : Ef Outc :=
  match o.op with
  | .move x | .assign x => ok (retype L o.type (r x))
  | .pick c a b => match r c with | .v (.lit (.bool p)) => ok (if p then r a else r b) | _ => .fail
  | .alloc t => ov (L.ti t).zero fun zx => nextGen d fun d g => .put d (.box g zx) (ok (.addr d g 0))
  | .box t x => ov (cellsX L t (retype L t (r x))) fun cs => nextGen d fun d g => .put d (.box g cs) (ok (.addr d g 0))
  | .build t ps => actBuild L t (ps.toList.map fun p => (p.1, r p.2))
  | .buildSlice t n ps => actBuildSlice L d t n (ps.toList.map fun p => (p.1, r p.2))
  | .load t x => actLoad L t (r x)
  | .store t a x => actStore L t (r a) (r x)
  | .nilCheck x => match r x with
    | .addr s g off => ok (.addr s g off)
    | .elt s g i off => ok (.elt s g i off)
    | .ro cs => ok (.ro cs)
    | _ => .fail
  | .binOp op t x y _ => if isNilC y then actNil L op t (r x) else actBin L op t (r x) (r y)
  | .typeAssert x _ t commaOk => actAssert L t commaOk (r x)
  | .unOp op _ x => match r x with | .v (.lit a) => ov (litUn op a) okl | _ => .fail
  | .convert src dst x => actConvert L src dst (r x)
  | .makeSlice t x y => actMake L d t (r x) (r y)
  | .makeMap t hint => actMakeMap L d t (hint.map r)
  | .lookup t x i commaOk => actLookup L t (r x) (r i) commaOk
  | .mapUpdate t x i y => actMapUpdate L t (r x) (r i) (r y)
  | .slice t x lo hi .none => actSlice L t (r x) (lo.map r) (hi.map r)
  | .fieldAddr t x f => actFieldAddr L t (r x) f
  | .field t x f => actField L t (r x) f
  | .indexAddr t x i => actIndexAddr L t (r x) (r i)
  | .index t x i => actIndex L t (r x) (r i)
  | .extract x i => match r x with | .tup xs => ov xs[i]? ok | _ => .fail
  | .makeFunc (.func f) first caps => if first.isEmpty then ok (.clo f (caps.toList.map r)) else .fail
  | .makeInterface t x => match (L.ti t).und, r x with
    | .int _, .v (.lit v) => okl (.iface t v)
    | _, _ => .fail
  | .panic x => match r x with | .v (.lit (.iface t v)) => .ret (.pan (.lit (.iface t v))) | _ => .fail
  | .call { callee := .builtin b, args, argTypes } => actBuiltin L d b argTypes (args.toList.map r)
  | .call { callee := .value f, args, .. } => match r f with
    | .clo g caps => if L.xb.contains g then actByteAt (args.toList.map r ++ caps) else match L.its.lookup g with
      | some it => actIt it (args.toList.map r ++ caps)
      | .none => if L.jn.contains g then actJoin (args.toList.map r ++ caps) else callF L call g (args.toList.map r ++ caps)
    | _ => .fail
  | _ => .fail

def St.put (ρ : St) (d : Option Tmp) (x : X) : St :=
  match d with
  | some t => if t < ρ.n then { ρ with sl := upd ρ.sl t x } else ρ
  | .none => ρ

/-- The outcome of an operation: a panic or none; the state; what it read and wrote of the objects. -/
abbrev OpR := Option (Option V × St × List Nat × List Nat)

/-- Is the operation to be carried out? (its guard) 'none': that is not known. -/
def guardX (ops : Array Oper) (o : Oper) (ρ : St) : Option Bool :=
  match o.guard with
  | .none => some true
  | some (j, want) => match (ops[j]?).bind (·.dst) with
    | some t => match ρ.sl t with
      | .v (.lit (.bool b)) => some (b == want)
      | .tup [] => some false
      | _ => .none
    | .none => .none

def siteOf (d : Option Tmp) (n : Nat) : Option Nat :=
  match d with
  | some t => if t < n then some t else .none
  | .none => .none

def dop (L : Lite) (call : Call1) (ops : Array Oper) (o : Oper) (ρ : St) : OpR :=
  match guardX ops o ρ with
  | some true =>
    match (act L call (siteOf o.dst ρ.n) o ρ.opd).run ρ.ob with
    | some (.val x, H, r, w) => some (.none, ({ ρ with ob := H } : St).put o.dst x, r, w)
    | some (.pan v, H, r, w) => some (some v, { ρ with ob := H }, r, w)
    | .none => .none
  | some false => some (.none, ρ.put o.dst (.tup []), [], [])
  | .none => .none

end Go.Dv

namespace Go.Dv
open Go

abbrev Mem := Nat → Nat → Option Value

/-- A value reads as immutable data, all of it in the sealed memory 'mu'. -/
inductive RepV (mu : Mem) : V → Value → Prop
  | lit (v : Value) (hv : scal v = true) : RepV mu (.lit v) v
  | sl {z : Nat} {es : List (List V)} {a : Option Addr} {cap : Nat} (us : Nat → Nat → Value) (hz : ∀ e ∈ es, e.length = z) (hf : ∀ e ∈ es, ∀ c ∈ e, c.flat = true) (hc : es.length ≤ cap)
      (hn : a = none → cap = 0 ∧ es = []) (hs : ∀ ad, a = some ad → es ≠ [] → ad.spot = none)
      (hm : ∀ (ad : Addr) (i : Nat) (e : List V) (j : Nat) (c : V), a = some ad → es[i]? = some e → e[j]? = some c → mu ad.block (ad.off + i * z + j) = some (us i j))
      (hr : ∀ (i : Nat) (e : List V) (j : Nat) (c : V), es[i]? = some e → e[j]? = some c → RepV mu c (us i j)) : RepV mu (.sl z es) (.slice a es.length cap)
  | agg {cs : List V} {vs : List Value} (hf : ∀ c ∈ cs, c.flat = true) (hl : cs.length = vs.length) (hr : ∀ (i : Nat) (c : V) (u : Value), cs[i]? = some c → vs[i]? = some u → RepV mu c u) : RepV mu (.agg cs) (.agg vs.toArray)

/-- A slice whose own cells lie in 'nu'. -/
def RepSl (nu : Nat → Nat → Value → Prop) (mu : Mem) (z : Nat) (es : List (List V)) (u : Value) : Prop :=
  ∃ a cap, u = .slice a es.length cap ∧ (∀ e ∈ es, e.length = z) ∧ (∀ e ∈ es, ∀ c ∈ e, c.flat = true) ∧ es.length ≤ cap ∧ (a = none → cap = 0 ∧ es = []) ∧ (∀ ad, a = some ad → es ≠ [] → ad.spot = none) ∧
    ∀ (ad : Addr) (i : Nat) (e : List V) (j : Nat) (c : V), a = some ad → es[i]? = some e → e[j]? = some c → ∃ u, nu ad.block (ad.off + i * z + j) u ∧ RepV mu c u

/-- Cells that lie one behind the other. -/
def RepCs (nu : Nat → Nat → Value → Prop) (mu : Mem) (cs : List V) (ad : Addr) : Prop :=
  ∀ (j : Nat) (c : V), cs[j]? = some c → ∃ u, nu ad.block (ad.off + j) u ∧ RepV mu c u

def inMem (mu : Mem) : Nat → Nat → Value → Prop := fun b o u => mu b o = some u

theorem RepV.toSl {mu : Mem} {z : Nat} {es : List (List V)} {u : Value} (h : RepV mu (.sl z es) u) : RepSl (inMem mu) mu z es u := by
  cases h with
  | sl us hz hf hc hn hs hm hr => exact ⟨_, _, rfl, hz, hf, hc, hn, hs, fun ad i e j c ha hi hj => ⟨_, hm ad i e j c ha hi hj, hr i e j c hi hj⟩⟩

theorem RepSl.toV {mu : Mem} {z : Nat} {es : List (List V)} {u : Value} (h : RepSl (inMem mu) mu z es u) : RepV mu (.sl z es) u := by
  obtain ⟨a, cap, rfl, hz, hf, hc, hn, hs, hm⟩ := h
  cases a with
  | none =>
    obtain ⟨rfl, rfl⟩ := hn rfl
    exact RepV.sl (fun _ _ => undef) hz hf hc hn hs (fun ad i e j c ha => by cases ha) (fun i e j c hi => by simp at hi)
  | some ad =>
    refine RepV.sl (fun i j => (mu ad.block (ad.off + i * z + j)).getD undef) hz hf hc hn hs ?_ ?_
    · intro ad' i e j c ha hi hj
      cases ha
      obtain ⟨u, hu, _⟩ := hm ad i e j c rfl hi hj
      rw [show mu ad.block (ad.off + i * z + j) = some u from hu]; rfl
    · intro i e j c hi hj
      obtain ⟨u, hu, hr⟩ := hm ad i e j c rfl hi hj
      simp only [show mu ad.block (ad.off + i * z + j) = some u from hu]; exact hr

theorem RepV.mono {mu mu' : Mem} (h : ∀ b o v, mu b o = some v → mu' b o = some v) {x : V} {u : Value} (hr : RepV mu x u) : RepV mu' x u := by
  induction hr with
  | lit v hv => exact .lit v hv
  | sl us hz hf hc hn hs hm hr ih => exact .sl us hz hf hc hn hs (fun ad i e j c ha hi hj => h _ _ _ (hm ad i e j c ha hi hj)) ih
  | agg hf hl hr ih => exact .agg hf hl ih

theorem RepSl.mono {nu nu' : Nat → Nat → Value → Prop} {mu mu' : Mem} (hn : ∀ b o v, nu b o v → nu' b o v) (h : ∀ b o v, mu b o = some v → mu' b o = some v)
    {z : Nat} {es : List (List V)} {u : Value} (hr : RepSl nu mu z es u) : RepSl nu' mu' z es u := by
  obtain ⟨a, cap, rfl, hz, hf, hc, hn', hs, hm⟩ := hr
  exact ⟨a, cap, rfl, hz, hf, hc, hn', hs, fun ad i e j c ha hi hj => let ⟨u, hu, hv⟩ := hm ad i e j c ha hi hj; ⟨u, hn _ _ _ hu, hv.mono h⟩⟩

theorem RepCs.mono {nu nu' : Nat → Nat → Value → Prop} {mu mu' : Mem} (hn : ∀ b o v, nu b o v → nu' b o v) (h : ∀ b o v, mu b o = some v → mu' b o = some v)
    {cs : List V} {ad : Addr} (hr : RepCs nu mu cs ad) : RepCs nu' mu' cs ad :=
  fun j c hj => let ⟨u, hu, hv⟩ := hr j c hj; ⟨u, hn _ _ _ hu, hv.mono h⟩

/-- Where the evaluator's objects lie; what is sealed for good; what is lent for this frame's time. -/
structure Gh where
  mu : Mem
  lam : Mem
  m : Nat → Option Nat
  cap : Nat → Nat

def Gh.nu (G : Gh) : Nat → Nat → Value → Prop := fun b o u => G.mu b o = some u ∨ G.lam b o = some u

inductive RepX (G : Gh) (H : Nat → Ob) : X → Value → Prop
  | undef (u : Value) : RepX G H .undef u
  | v {x : V} {u : Value} (h : RepV G.mu x u) : RepX G H (.v x) u
  | nil (z : Nat) : RepX G H (.nil z) (.slice none 0 0)
  | lent {z : Nat} {es : List (List V)} {u : Value} (h : RepSl G.nu G.mu z es u) : RepX G H (.lent z es) u
  | ro {cs : List V} {ad : Addr} (hf : ∀ c ∈ cs, c.flat = true) (hs : cs ≠ [] → ad.spot = none) (h : RepCs G.nu G.mu cs ad) : RepX G H (.ro cs) (.pointer (some ad))
  | addr {s g off : Nat} {ad : Addr} (hg : g ≤ (H s).gen) (h : ∀ cs, H s = .box g cs → ∃ b, G.m s = some b ∧ ad = ⟨b, off, none⟩) : RepX G H (.addr s g off) (.pointer (some ad))
  | elt {s g i off : Nat} {ad : Addr} (hg : g ≤ (H s).gen) (h : ∀ mt z es, H s = .row g mt z es → ∃ b, G.m s = some b ∧ ad = ⟨b, i * z + off, none⟩) : RepX G H (.elt s g i off) (.pointer (some ad))
  | own {s g lo n cap : Nat} {a : Addr} (hg : g ≤ (H s).gen)
      (h : ∀ mt z es, H s = .row g mt z es → lo + n ≤ es.length ∧ n ≤ cap ∧ ∃ b, G.m s = some b ∧ (0 < n → a = ⟨b, lo * z, none⟩) ∧ (lo = 0 → a = ⟨b, 0, none⟩ ∧ cap = G.cap s)) :
      RepX G H (.own s g lo n) (.slice (some a) n cap)
  | bsl {s g n cap : Nat} {a : Addr} (hg : g ≤ (H s).gen) (h : ∀ cs, H s = .box g cs → ∃ b, G.m s = some b ∧ a = ⟨b, 0, none⟩) : RepX G H (.bsl s g n) (.slice (some a) n cap)
  | mapr {s g b : Nat} (hg : g ≤ (H s).gen) (h : ∀ es, H s = .mp g es → G.m s = some b) : RepX G H (.mapr s g) (.map (some b))
  | clo {f : FuncId} {caps : List X} {cvs : List Value} (hl : caps.length = cvs.length) (h : ∀ (i : Nat) (c : X) (u : Value), caps[i]? = some c → cvs[i]? = some u → RepX G H c u) :
      RepX G H (.clo f caps) (.func (.func f) #[] cvs.toArray)
  | tup {xs : List X} {vs : List Value} (hl : xs.length = vs.length) (h : ∀ (i : Nat) (c : X) (u : Value), xs[i]? = some c → vs[i]? = some u → RepX G H c u) : RepX G H (.tup xs) (.tuple vs.toArray)

/-- One state of objects and places comes of another: what still names an object names the same one. -/
structure Later (G : Gh) (H : Nat → Ob) (G' : Gh) (H' : Nat → Ob) : Prop where
  mu : ∀ b o v, G.mu b o = some v → G'.mu b o = some v
  lam : ∀ b o v, G.lam b o = some v → G'.lam b o = some v
  gen : ∀ s, (H s).gen ≤ (H' s).gen
  box : ∀ s g cs, H' s = .box g cs → g ≤ (H s).gen → (∃ cs0, H s = .box g cs0) ∧ G'.m s = G.m s
  row : ∀ s g mt z es, H' s = .row g mt z es → g ≤ (H s).gen → (∃ mt0 es0, H s = .row g mt0 z es0 ∧ es0.length ≤ es.length) ∧ G'.m s = G.m s ∧ G'.cap s = G.cap s
  mp : ∀ s g es, H' s = .mp g es → g ≤ (H s).gen → (∃ es0, H s = .mp g es0) ∧ G'.m s = G.m s

theorem Later.nu {G : Gh} {H : Nat → Ob} {G' : Gh} {H' : Nat → Ob} (l : Later G H G' H') : ∀ b o v, G.nu b o v → G'.nu b o v :=
  fun b o v h => h.imp (l.mu b o v) (l.lam b o v)

theorem RepX.later {G : Gh} {H : Nat → Ob} {G' : Gh} {H' : Nat → Ob} (l : Later G H G' H') {x : X} {u : Value} (h : RepX G H x u) : RepX G' H' x u := by
  induction h with
  | undef u => exact .undef u
  | v h => exact .v (h.mono l.mu)
  | nil z => exact .nil z
  | lent h => exact .lent (h.mono l.nu l.mu)
  | ro hf hs h => exact .ro hf hs (h.mono l.nu l.mu)
  | addr hg h =>
    refine .addr (Nat.le_trans hg (l.gen _)) fun cs hc => ?_
    obtain ⟨⟨cs0, h0⟩, hm⟩ := l.box _ _ _ hc hg
    rw [hm]; exact h cs0 h0
  | elt hg h =>
    refine .elt (Nat.le_trans hg (l.gen _)) fun mt z es hc => ?_
    obtain ⟨⟨mt0, es0, h0, _⟩, hm, _⟩ := l.row _ _ _ _ _ hc hg
    rw [hm]; exact h mt0 z es0 h0
  | own hg h =>
    refine .own (Nat.le_trans hg (l.gen _)) fun mt z es hc => ?_
    obtain ⟨⟨mt0, es0, h0, hle⟩, hm, hcap⟩ := l.row _ _ _ _ _ hc hg
    obtain ⟨h1, h2, b, hb⟩ := h mt0 z es0 h0
    rw [hm, hcap]; exact ⟨by omega, h2, b, hb⟩
  | bsl hg h =>
    refine .bsl (Nat.le_trans hg (l.gen _)) fun cs hc => ?_
    obtain ⟨⟨cs0, h0⟩, hm⟩ := l.box _ _ _ hc hg
    rw [hm]; exact h cs0 h0
  | mapr hg h =>
    refine .mapr (Nat.le_trans hg (l.gen _)) fun es hc => ?_
    obtain ⟨⟨es0, h0⟩, hm⟩ := l.mp _ _ _ hc hg
    rw [hm]; exact h es0 h0
  | clo hl h ih => exact .clo hl ih
  | tup hl h ih => exact .tup hl ih

theorem Later.refl (G : Gh) (H : Nat → Ob) : Later G H G H :=
  ⟨fun _ _ _ h => h, fun _ _ _ h => h, fun _ => Nat.le_refl _, fun s g cs h _ => ⟨⟨cs, h⟩, rfl⟩, fun s g mt z es h _ => ⟨⟨mt, es, h, Nat.le_refl _⟩, rfl, rfl⟩, fun s g es h _ => ⟨⟨es, h⟩, rfl⟩⟩

theorem Later.trans {G : Gh} {H : Nat → Ob} {G' : Gh} {H' : Nat → Ob} {G2 : Gh} {H2 : Nat → Ob} (l : Later G H G' H') (k : Later G' H' G2 H2) : Later G H G2 H2 := by
  refine ⟨fun b o v h => k.mu b o v (l.mu b o v h), fun b o v h => k.lam b o v (l.lam b o v h), fun s => Nat.le_trans (l.gen s) (k.gen s), ?_, ?_, ?_⟩
  · intro s g cs h hg
    obtain ⟨⟨cs0, h0⟩, hm⟩ := k.box s g cs h (Nat.le_trans hg (l.gen s))
    obtain ⟨h1, hm1⟩ := l.box s g cs0 h0 hg
    exact ⟨h1, hm.trans hm1⟩
  · intro s g mt z es h hg
    obtain ⟨⟨mt0, es0, h0, hle⟩, hm, hc⟩ := k.row s g mt z es h (Nat.le_trans hg (l.gen s))
    obtain ⟨⟨mt1, es1, h1, hle1⟩, hm1, hc1⟩ := l.row s g mt0 z es0 h0 hg
    exact ⟨⟨mt1, es1, h1, Nat.le_trans hle1 hle⟩, hm.trans hm1, hc.trans hc1⟩
  · intro s g es h hg
    obtain ⟨⟨es0, h0⟩, hm⟩ := k.mp s g es h (Nat.le_trans hg (l.gen s))
    obtain ⟨h1, hm1⟩ := l.mp s g es0 h0 hg
    exact ⟨h1, hm.trans hm1⟩

/-- An object as it lies in a world. -/
def RepOb (G : Gh) (H : Nat → Ob) (w : World) (s : Nat) : Ob → Prop
  | .none _ => True
  | .box _ cs => ∃ b, G.m s = some b ∧ b < w.heap.size ∧ (∀ c ∈ cs, cellX c = true) ∧ (∀ o, o < cs.length → w.frozen? ⟨b, o, none⟩ = false) ∧
      ∀ (j : Nat) (c : X), cs[j]? = some c → ∃ u, w.cell? ⟨b, j, none⟩ = some u ∧ RepX G H c u
  | .row _ mt z es => ∃ b, G.m s = some b ∧ b < w.heap.size ∧ (∀ e ∈ es, e.length = z) ∧ (∀ e ∈ es, ∀ c ∈ e, c.flat = true) ∧ es.length ≤ G.cap s ∧
      (∀ o, o < G.cap s * z → w.frozen? ⟨b, o, none⟩ = false ∧ (w.cell? ⟨b, o, none⟩).isSome = true) ∧
      ∀ (i : Nat) (e : List V) (j : Nat) (c : V), es[i]? = some e → e[j]? = some c → ∃ u, w.cell? ⟨b, i * z + j, none⟩ = some u ∧ RepV G.mu c u ∧ (mt = false → G.mu b (i * z + j) = some u)
  | .mp _ es => ∃ b, G.m s = some b ∧ b < w.heap.size ∧ ∃ en k, w.heap[b]? = some (.map en k) ∧ en.size = es.length ∧
      ∀ (i : Nat) (e : Value × V) (m : MapEntry), es[i]? = some e → en[i]? = some m → m.key = e.1 ∧ RepV G.mu e.2 m.val

def live (o : Ob) : Prop := match o with | .none _ => False | _ => True

/-- The frame's ground: the first block of its own, the boxes that it was handed, the world and the sealed memory at its begin. -/
structure Ctx where
  B : Nat
  ios : List Nat
  W : World
  mu0 : Mem
  ds : List Deferred := []
  /-- Values that are kept besides the slots, with what stands for them. -/
  kp : X → Value → Prop := fun _ _ => False
  /-- Other objects that stay as they are. -/
  rest : Nat → Option Obj := fun _ => none

structure Base (B : Nat) (ios : List Nat) (W w : World) : Prop where
  os : w.os = W.os
  tape : w.tape = W.tape
  output : w.output = W.output
  size : W.heap.size ≤ w.heap.size
  block : ∀ k, k < B → k ∉ ios → w.heap[k]? = W.heap[k]?

structure Inv (c : Ctx) (G : Gh) (ρ : St) (a : Act) (w : World) : Prop where
  size : a.tmps.size = ρ.n
  slots : ∀ i, RepX G ρ.ob (ρ.sl i) (a.tmps.getD i undef)
  objs : ∀ s, RepOb G ρ.ob w s (ρ.ob s)
  hmu : ∀ b o v, G.mu b o = some v → w.cell? ⟨b, o, none⟩ = some v
  hlam : ∀ b o v, G.lam b o = some v → w.cell? ⟨b, o, none⟩ = some v
  inj : ∀ s s' b, live (ρ.ob s) → live (ρ.ob s') → G.m s = some b → G.m s' = some b → s = s'
  place : ∀ s b, live (ρ.ob s) → G.m s = some b → c.B ≤ b ∨ (ρ.n ≤ s ∧ b ∈ c.ios)
  sepl : ∀ s b o, live (ρ.ob s) → G.m s = some b → G.lam b o = none
  sepb : ∀ s g cs b o, ρ.ob s = .box g cs → G.m s = some b → G.mu b o = none
  sepr : ∀ s g mt z es b o, ρ.ob s = .row g mt z es → G.m s = some b → (mt = true ∨ es.length * z ≤ o) → G.mu b o = none
  rown : ∀ s g mt z es, ρ.ob s = .row g mt z es → s < ρ.n
  iom : ∀ (j b : Nat), c.ios[j]? = some b → G.m (ρ.n + j) = some b
  base : Base c.B c.ios c.W w
  cB : c.B ≤ w.heap.size
  mu0 : ∀ b o v, c.mu0 b o = some v → G.mu b o = some v
  mu1 : ∀ b o v, G.mu b o = some v → c.mu0 b o = some v ∨ c.B ≤ b
  defers : a.defers = c.ds
  kept : ∀ x u, c.kp x u → RepX G ρ.ob x u
  rest : ∀ k o, c.rest k = some o → w.heap[k]? = some o
  restm : ∀ s b, live (ρ.ob s) → G.m s = some b → c.rest b = none

end Go.Dv

namespace Go.Dv
open Go

@[simp] theorem upd_same {α : Type} (f : Nat → α) (i : Nat) (x : α) : upd f i x i = x := by simp [upd]
theorem upd_ne {α : Type} (f : Nat → α) {i j : Nat} (x : α) (h : j ≠ i) : upd f i x j = f j := by simp [upd, h]

theorem cell_eq {w w' : World} {b : Nat} (h : w'.heap[b]? = w.heap[b]?) (o : Nat) : w'.cell? ⟨b, o, none⟩ = w.cell? ⟨b, o, none⟩ := by
  simp only [World.cell?, h]
theorem frozen_eq {w w' : World} {b : Nat} (h : w'.heap[b]? = w.heap[b]?) (o : Nat) : w'.frozen? ⟨b, o, none⟩ = w.frozen? ⟨b, o, none⟩ := by
  simp only [World.frozen?, h]
theorem cell_lt {w : World} {b o : Nat} {u : Value} (h : w.cell? ⟨b, o, none⟩ = some u) : b < w.heap.size := World.block_lt_of_cell? (w := w) (a := ⟨b, o, none⟩) h

theorem RepOb.step {G G' : Gh} {H H' : Nat → Ob} {w w' : World} {s : Nat} {o : Ob} (h : RepOb G H w s o) (l : Later G H G' H') (hm : G'.m s = G.m s) (hc : G'.cap s = G.cap s)
    (hb : ∀ b, G.m s = some b → b < w.heap.size → w'.heap[b]? = w.heap[b]?) (hs : w.heap.size ≤ w'.heap.size) : RepOb G' H' w' s o := by
  cases o with
  | none g => trivial
  | box g cs =>
    obtain ⟨b, h1, h2, h3, h4, h5⟩ := h
    have e := hb b h1 h2
    refine ⟨b, hm.trans h1, Nat.lt_of_lt_of_le h2 hs, h3, fun o ho => (frozen_eq e o).trans (h4 o ho), fun j c hj => ?_⟩
    obtain ⟨u, hu, hr⟩ := h5 j c hj
    exact ⟨u, (cell_eq e j).trans hu, hr.later l⟩
  | row g mt z es =>
    obtain ⟨b, h1, h2, h3, h4, h5, h6, h7⟩ := h
    have e := hb b h1 h2
    refine ⟨b, hm.trans h1, Nat.lt_of_lt_of_le h2 hs, h3, h4, by rw [hc]; exact h5, fun o ho => ?_, fun i e' j c hi hj => ?_⟩
    · rw [hc] at ho
      rw [frozen_eq e, cell_eq e]; exact h6 o ho
    · obtain ⟨u, hu, hr, hk⟩ := h7 i e' j c hi hj
      exact ⟨u, (cell_eq e _).trans hu, hr.mono l.mu, fun hmt => l.mu _ _ _ (hk hmt)⟩
  | mp g es =>
    obtain ⟨b, h1, h2, en, k, h3, h4, h5⟩ := h
    exact ⟨b, hm.trans h1, Nat.lt_of_lt_of_le h2 hs, en, k, (hb b h1 h2).trans h3, h4, fun i e m hi hj => ⟨(h5 i e m hi hj).1, (h5 i e m hi hj).2.mono l.mu⟩⟩

theorem RepOb.block {G : Gh} {H : Nat → Ob} {w : World} {s : Nat} {o : Ob} (h : RepOb G H w s o) (hl : live o) : ∃ b, G.m s = some b ∧ b < w.heap.size := by
  cases o with
  | none g => exact hl.elim
  | box g cs => obtain ⟨b, h1, h2, _⟩ := h; exact ⟨b, h1, h2⟩
  | row g mt z es => obtain ⟨b, h1, h2, _⟩ := h; exact ⟨b, h1, h2⟩
  | mp g es => obtain ⟨b, h1, h2, _⟩ := h; exact ⟨b, h1, h2⟩

theorem Inv.lt {c : Ctx} {G : Gh} {ρ : St} {a : Act} {w : World} (h : Inv c G ρ a w) {s b : Nat} (hl : live (ρ.ob s)) (hm : G.m s = some b) : b < w.heap.size := by
  obtain ⟨b', h1, h2⟩ := (h.objs s).block hl
  rw [hm] at h1; cases h1; exact h2

theorem Act.getD_put (a : Act) (d : Option Tmp) (u : Value) (i : Nat) :
    (a.put d u).tmps.getD i undef = if d = some i ∧ i < a.tmps.size then u else a.tmps.getD i undef := by
  cases d with
  | none => simp [Act.put]
  | some t =>
    simp only [Act.put, Array.getD_eq_getD_getElem?, Array.getElem?_setIfInBounds, Option.some.injEq]
    by_cases ht : t = i
    · subst ht
      by_cases hl : t < a.tmps.size <;> simp [hl]
    · simp [ht]

theorem Inv.put {c : Ctx} {G : Gh} {ρ : St} {a : Act} {w : World} (h : Inv c G ρ a w) (d : Option Tmp) {x : X} {u : Value} (hx : RepX G ρ.ob x u) :
    Inv c G (ρ.put d x) (a.put d u) w := by
  cases d with
  | none => exact h
  | some t =>
    show Inv c G (if t < ρ.n then { ρ with sl := upd ρ.sl t x } else ρ) (a.put (some t) u) w
    have hsz : (a.put (some t) u).tmps.size = ρ.n := by simpa [Act.put] using h.size
    have hsl : ∀ i, RepX G ρ.ob ((if t < ρ.n then upd ρ.sl t x else ρ.sl) i) ((a.put (some t) u).tmps.getD i undef) := by
      intro i
      rw [Act.getD_put]
      by_cases hi : t = i
      · subst hi
        by_cases hl : t < ρ.n
        · simp only [h.size, hl, if_true, and_self, upd_same]; exact hx
        · simp only [h.size, hl, if_false, and_false]; exact h.slots t
      · simp only [Option.some.injEq, hi, false_and, if_false]
        by_cases hl : t < ρ.n
        · simp only [hl, if_true, upd_ne _ _ (fun e : i = t => hi e.symm)]; exact h.slots i
        · simp only [hl, if_false]; exact h.slots i
    by_cases hl : t < ρ.n
    · rw [if_pos hl]
      simp only [hl, if_true] at hsl
      exact ⟨hsz, hsl, h.objs, h.hmu, h.hlam, h.inj, h.place, h.sepl, h.sepb, h.sepr, h.rown, h.iom, h.base, h.cB, h.mu0, h.mu1, h.defers, h.kept, h.rest, h.restm⟩
    · rw [if_neg hl]
      simp only [hl, if_false] at hsl
      exact ⟨hsz, hsl, h.objs, h.hmu, h.hlam, h.inj, h.place, h.sepl, h.sepb, h.sepr, h.rown, h.iom, h.base, h.cB, h.mu0, h.mu1, h.defers, h.kept, h.rest, h.restm⟩

theorem Base.same {B : Nat} {ios : List Nat} {W w w' : World} (h : Base B ios W w) (hh : w'.heap = w.heap) (ho : w'.os = w.os) (ht : w'.tape = w.tape) (hp : w'.output = w.output) : Base B ios W w' :=
  ⟨ho.trans h.os, ht.trans h.tape, hp.trans h.output, by rw [hh]; exact h.size, fun k h1 h2 => by rw [hh]; exact h.block k h1 h2⟩

/-- Something is drawn. -/
theorem Inv.drew {c : Ctx} {G : Gh} {ρ : St} {a : Act} {w w' : World} (h : Inv c G ρ a w) (hh : w'.heap = w.heap) (ho : w'.os = w.os) (ht : w'.tape = w.tape) (hp : w'.output = w.output) : Inv c G ρ a w' := by
  have hb : ∀ b : Nat, w'.heap[b]? = w.heap[b]? := fun b => by rw [hh]
  exact ⟨h.size, h.slots, fun s => (h.objs s).step (.refl _ _) rfl rfl (fun b _ _ => hb b) (by rw [hh]; exact Nat.le_refl _),
    fun b o v k => (cell_eq (hb b) o).trans (h.hmu b o v k), fun b o v k => (cell_eq (hb b) o).trans (h.hlam b o v k), h.inj, h.place, h.sepl, h.sepb, h.sepr, h.rown, h.iom,
    h.base.same hh ho ht hp, by rw [hh]; exact h.cB, h.mu0, h.mu1, h.defers, h.kept, fun k o hk => (hb k).trans (h.rest k o hk), h.restm⟩

/-- One object is changed, or made anew. -/
theorem Inv.change {c : Ctx} {G : Gh} {ρ : St} {a : Act} {w : World} (h : Inv c G ρ a w) (s : Nat) (o : Ob) (G' : Gh) (w' : World) (nb : Nat)
    (hlam : G'.lam = G.lam) (hm : ∀ t, t ≠ s → G'.m t = G.m t ∧ G'.cap t = G.cap t) (hms : G'.m s = some nb)
    (hmu : ∀ b x v, G.mu b x = some v → G'.mu b x = some v)
    (hmu' : ∀ b x v, G'.mu b x = some v → G.mu b x = some v ∨ (b = nb ∧ w'.cell? ⟨b, x, none⟩ = some v))
    (hnb0 : (w.heap.size ≤ nb ∧ s < ρ.n) ∨ (live (ρ.ob s) ∧ G.m s = some nb))
    (hblk : ∀ k, k ≠ nb → k < w.heap.size → w'.heap[k]? = w.heap[k]?) (hsize : w.heap.size ≤ w'.heap.size)
    (ho : w'.os = w.os) (ht : w'.tape = w.tape) (hp : w'.output = w.output)
    (later : Later G ρ.ob G' (upd ρ.ob s o))
    (hob : RepOb G' (upd ρ.ob s o) w' s o)
    (hold : ∀ x v, G.mu nb x = some v → w'.cell? ⟨nb, x, none⟩ = some v)
    (hsb : ∀ g cs x, o = .box g cs → G'.mu nb x = none)
    (hsr : ∀ g mt z es x, o = .row g mt z es → (mt = true ∨ es.length * z ≤ x) → G'.mu nb x = none)
    (hrn : ∀ g mt z es, o = .row g mt z es → s < ρ.n) (hln : live o) :
    Inv c G' { ρ with ob := upd ρ.ob s o } a w' := by
  have hnb : w.heap.size ≤ nb ∨ (live (ρ.ob s) ∧ G.m s = some nb) := hnb0.imp And.left id
  have other : ∀ t b, t ≠ s → live (ρ.ob t) → G.m t = some b → b ≠ nb := by
    intro t b ht hl hb e
    subst e
    rcases hnb with hn | ⟨hl', hm'⟩
    · exact absurd (h.lt hl hb) (by omega)
    · exact ht (h.inj t s b hl hl' hb hm')
  have cellsame : ∀ b x v, b ≠ nb → w.cell? ⟨b, x, none⟩ = some v → w'.cell? ⟨b, x, none⟩ = some v := fun b x v hb hc =>
    (cell_eq (hblk b hb (cell_lt hc)) x).trans hc
  have lamnb : ∀ x, G.lam nb x = none := by
    intro x
    rcases hnb with hn | ⟨hl', hm'⟩
    · cases hx : G.lam nb x with
      | none => rfl
      | some v => exact absurd (cell_lt (h.hlam _ _ _ hx)) (by omega)
    · exact h.sepl s nb x hl' hm'
  have muother : ∀ b x, b ≠ nb → G'.mu b x = G.mu b x := by
    intro b x hb
    cases hx : G.mu b x with
    | some v => exact hmu _ _ _ hx
    | none =>
      cases hy : G'.mu b x with
      | none => rfl
      | some v =>
        rcases hmu' _ _ _ hy with hz | ⟨hz, _⟩
        · rw [hx] at hz; cases hz
        · exact absurd hz hb
  refine ⟨h.size, fun i => (h.slots i).later later, ?_, ?_, ?_, ?_, ?_, ?_, ?_, ?_, ?_, ?_, ?_, Nat.le_trans h.cB hsize, fun b x v k => hmu _ _ _ (h.mu0 b x v k), ?_, h.defers, fun x u hx => (h.kept x u hx).later later, fun k o' hk => ?_, fun t b hl hb => ?_⟩
  · intro t
    by_cases e : t = s
    · subst e; simp only [upd_same]; exact hob
    · simp only [upd_ne _ _ e]
      cases hot : ρ.ob t with
      | none g => trivial
      | _ =>
        rw [← hot]
        refine (h.objs t).step later (hm t e).1 (hm t e).2 (fun b hb hlt => hblk b (other t b e (by rw [hot]; trivial) hb) hlt) hsize
  · intro b x v k
    rcases hmu' _ _ _ k with hz | ⟨rfl, hz⟩
    · by_cases e : b = nb
      · subst e; exact hold x v hz
      · exact cellsame b x v e (h.hmu _ _ _ hz)
    · exact hz
  · intro b x v k
    rw [hlam] at k
    have e : b ≠ nb := fun e => by subst e; rw [lamnb] at k; cases k
    exact cellsame b x v e (h.hlam _ _ _ k)
  · intro t t' b hl hl' hb hb'
    by_cases e : t = s
    · by_cases e' : t' = s
      · rw [e, e']
      · simp only [upd_ne _ _ e'] at hl'
        rw [(hm t' e').1] at hb'
        subst e; rw [hms] at hb; cases hb
        exact absurd rfl (other t' _ e' hl' hb')
    · simp only [upd_ne _ _ e] at hl
      rw [(hm t e).1] at hb
      by_cases e' : t' = s
      · subst e'; rw [hms] at hb'; cases hb'
        exact absurd rfl (other t _ e hl hb)
      · simp only [upd_ne _ _ e'] at hl'
        rw [(hm t' e').1] at hb'
        exact h.inj t t' b hl hl' hb hb'
  · intro t b hl hb
    by_cases e : t = s
    · subst e; rw [hms] at hb; cases hb
      rcases hnb with hn | ⟨hl', hm'⟩
      · exact .inl (Nat.le_trans h.cB hn)
      · exact h.place t nb hl' hm'
    · simp only [upd_ne _ _ e] at hl
      rw [(hm t e).1] at hb
      exact h.place t b hl hb
  · intro t b x hl hb
    rw [hlam]
    by_cases e : t = s
    · subst e; rw [hms] at hb; cases hb; exact lamnb x
    · simp only [upd_ne _ _ e] at hl
      rw [(hm t e).1] at hb
      exact h.sepl t b x hl hb
  · intro t g cs b x ho' hb
    by_cases e : t = s
    · subst e; rw [hms] at hb; cases hb
      simp only [upd_same] at ho'
      exact hsb g cs x ho'
    · simp only [upd_ne _ _ e] at ho'
      rw [(hm t e).1] at hb
      rw [muother b x (other t b e (by rw [ho']; trivial) hb)]
      exact h.sepb t g cs b x ho' hb
  · intro t g mt z es b x ho' hb hx
    by_cases e : t = s
    · subst e; rw [hms] at hb; cases hb
      simp only [upd_same] at ho'
      exact hsr g mt z es x ho' hx
    · simp only [upd_ne _ _ e] at ho'
      rw [(hm t e).1] at hb
      rw [muother b x (other t b e (by rw [ho']; trivial) hb)]
      exact h.sepr t g mt z es b x ho' hb hx
  · intro t g mt z es ho'
    by_cases e : t = s
    · subst e; simp only [upd_same] at ho'; exact hrn g mt z es ho'
    · simp only [upd_ne _ _ e] at ho'; exact h.rown t g mt z es ho'
  · intro j b hj
    by_cases e : ρ.n + j = s
    · rcases hnb0 with ⟨_, hs⟩ | ⟨_, hm'⟩
      · omega
      · have := h.iom j b hj
        rw [e, hm'] at this
        show G'.m (ρ.n + j) = some b
        rw [e, hms]; exact this
    · show G'.m (ρ.n + j) = some b
      rw [(hm _ e).1]; exact h.iom j b hj
  · refine ⟨ho.trans h.base.os, ht.trans h.base.tape, hp.trans h.base.output, Nat.le_trans h.base.size hsize, fun k hk hk' => ?_⟩
    have e : k ≠ nb := by
      intro e; subst e
      rcases hnb with hn | ⟨hl', hm'⟩
      · have := h.cB; omega
      · rcases h.place s k hl' hm' with hp | ⟨_, hp⟩
        · omega
        · exact hk' hp
    rw [hblk k e (Nat.lt_of_lt_of_le hk h.cB)]
    exact h.base.block k hk hk'
  · intro b x v k
    rcases hmu' _ _ _ k with hz | ⟨rfl, hz⟩
    · exact h.mu1 _ _ _ hz
    · rcases hnb with hn | ⟨hl', hm'⟩
      · exact .inr (Nat.le_trans h.cB hn)
      · cases o with
        | none g => exact hln.elim
        | box g cs => rw [hsb g cs x rfl] at k; cases k
        | row g mt z es =>
          rcases h.place s b hl' hm' with hp | ⟨hp, _⟩
          · exact .inr hp
          · exact absurd (hrn g mt z es rfl) (by omega)
        | mp g es =>
          obtain ⟨b', h1, _, en, k', h3, _⟩ := hob
          rw [hms] at h1; cases h1
          rw [show w'.cell? ⟨b, x, none⟩ = none from by simp [World.cell?, h3]] at hz
          cases hz
  · have hk' := h.rest k o' hk
    have hkl := (Array.getElem?_eq_some_iff.1 hk').1
    refine (hblk k (fun e => ?_) hkl).trans hk'
    subst e
    rcases hnb with hn | ⟨hl', hm'⟩
    · omega
    · rw [h.restm s k hl' hm'] at hk; cases hk
  · by_cases e : t = s
    · subst e; rw [hms] at hb; cases hb
      rcases hnb with hn | ⟨hl', hm'⟩
      · cases k : c.rest nb with
        | none => rfl
        | some o' => exact absurd (Array.getElem?_eq_some_iff.1 (h.rest nb o' k)).1 (by omega)
      · exact h.restm t nb hl' hm'
    · simp only [upd_ne _ _ e] at hl
      rw [(hm t e).1] at hb
      exact h.restm t b hl hb

end Go.Dv

namespace Go.Dv
open Go

theorem Later.fresh {G G' : Gh} {H : Nat → Ob} {s : Nat} {o : Ob} (ho : (H s).gen < o.gen) (hm : ∀ t, t ≠ s → G'.m t = G.m t ∧ G'.cap t = G.cap t)
    (hmu : ∀ b x v, G.mu b x = some v → G'.mu b x = some v) (hlam : ∀ b x v, G.lam b x = some v → G'.lam b x = some v) : Later G H G' (upd H s o) := by
  refine ⟨hmu, hlam, fun t => ?_, fun t g cs h hg => ?_, fun t g mt z es h hg => ?_, fun t g es h hg => ?_⟩
  · by_cases e : t = s
    · subst e; rw [upd_same]; omega
    · rw [upd_ne _ _ e]; exact Nat.le_refl _
  · by_cases e : t = s
    · subst e; rw [upd_same] at h; subst h; change (H t).gen < g at ho; omega
    · rw [upd_ne _ _ e] at h; exact ⟨⟨cs, h⟩, (hm t e).1⟩
  · by_cases e : t = s
    · subst e; rw [upd_same] at h; subst h; change (H t).gen < g at ho; omega
    · rw [upd_ne _ _ e] at h; exact ⟨⟨mt, es, h, Nat.le_refl _⟩, (hm t e).1, (hm t e).2⟩
  · by_cases e : t = s
    · subst e; rw [upd_same] at h; subst h; change (H t).gen < g at ho; omega
    · rw [upd_ne _ _ e] at h; exact ⟨⟨es, h⟩, (hm t e).1⟩

theorem Later.box' {G G' : Gh} {H : Nat → Ob} {s g : Nat} {cs0 cs : List X} (h0 : H s = .box g cs0) (hm : ∀ t, G'.m t = G.m t ∧ G'.cap t = G.cap t)
    (hmu : ∀ b x v, G.mu b x = some v → G'.mu b x = some v) (hlam : ∀ b x v, G.lam b x = some v → G'.lam b x = some v) : Later G H G' (upd H s (.box g cs)) := by
  refine ⟨hmu, hlam, fun t => ?_, fun t g' cs' h hg => ?_, fun t g' mt z es h hg => ?_, fun t g' es h hg => ?_⟩
  · by_cases e : t = s
    · subst e; rw [upd_same, h0]; exact Nat.le_refl _
    · rw [upd_ne _ _ e]; exact Nat.le_refl _
  · by_cases e : t = s
    · subst e; rw [upd_same] at h; cases h; exact ⟨⟨cs0, h0⟩, (hm t).1⟩
    · rw [upd_ne _ _ e] at h; exact ⟨⟨cs', h⟩, (hm t).1⟩
  · by_cases e : t = s
    · subst e; rw [upd_same] at h; cases h
    · rw [upd_ne _ _ e] at h; exact ⟨⟨mt, es, h, Nat.le_refl _⟩, (hm t).1, (hm t).2⟩
  · by_cases e : t = s
    · subst e; rw [upd_same] at h; cases h
    · rw [upd_ne _ _ e] at h; exact ⟨⟨es, h⟩, (hm t).1⟩

theorem Later.row' {G G' : Gh} {H : Nat → Ob} {s g : Nat} {mt0 mt : Bool} {z : Nat} {es0 es : List (List V)} (h0 : H s = .row g mt0 z es0) (hl : es0.length ≤ es.length)
    (hm : ∀ t, G'.m t = G.m t ∧ G'.cap t = G.cap t)
    (hmu : ∀ b x v, G.mu b x = some v → G'.mu b x = some v) (hlam : ∀ b x v, G.lam b x = some v → G'.lam b x = some v) : Later G H G' (upd H s (.row g mt z es)) := by
  refine ⟨hmu, hlam, fun t => ?_, fun t g' cs' h hg => ?_, fun t g' mt' z' es' h hg => ?_, fun t g' es' h hg => ?_⟩
  · by_cases e : t = s
    · subst e; rw [upd_same, h0]; exact Nat.le_refl _
    · rw [upd_ne _ _ e]; exact Nat.le_refl _
  · by_cases e : t = s
    · subst e; rw [upd_same] at h; cases h
    · rw [upd_ne _ _ e] at h; exact ⟨⟨cs', h⟩, (hm t).1⟩
  · by_cases e : t = s
    · subst e; rw [upd_same] at h; cases h; exact ⟨⟨mt0, es0, h0, hl⟩, (hm t).1, (hm t).2⟩
    · rw [upd_ne _ _ e] at h; exact ⟨⟨mt', es', h, Nat.le_refl _⟩, (hm t).1, (hm t).2⟩
  · by_cases e : t = s
    · subst e; rw [upd_same] at h; cases h
    · rw [upd_ne _ _ e] at h; exact ⟨⟨es', h⟩, (hm t).1⟩

theorem Later.mp' {G : Gh} {H : Nat → Ob} {s g : Nat} {es0 es : List (Value × V)} (h0 : H s = .mp g es0) : Later G H G (upd H s (.mp g es)) := by
  refine ⟨fun _ _ _ k => k, fun _ _ _ k => k, fun t => ?_, fun t g' cs' h hg => ?_, fun t g' mt' z' es' h hg => ?_, fun t g' es' h hg => ?_⟩
  · by_cases e : t = s
    · subst e; rw [upd_same, h0]; exact Nat.le_refl _
    · rw [upd_ne _ _ e]; exact Nat.le_refl _
  · by_cases e : t = s
    · subst e; rw [upd_same] at h; cases h
    · rw [upd_ne _ _ e] at h; exact ⟨⟨cs', h⟩, rfl⟩
  · by_cases e : t = s
    · subst e; rw [upd_same] at h; cases h
    · rw [upd_ne _ _ e] at h; exact ⟨⟨mt', es', h, Nat.le_refl _⟩, rfl, rfl⟩
  · by_cases e : t = s
    · subst e; rw [upd_same] at h; cases h; exact ⟨⟨es0, h0⟩, rfl⟩
    · rw [upd_ne _ _ e] at h; exact ⟨⟨es', h⟩, rfl⟩

def Gh.at (G : Gh) (s b n : Nat) : Gh := { G with m := upd G.m s (some b), cap := upd G.cap s n }

theorem alloc_block (w : World) (o : Obj) {k : Nat} (h : k ≠ w.heap.size) (h' : k < w.heap.size) : (w.alloc o).heap[k]? = w.heap[k]? := by
  show (w.heap.push o)[k]? = _
  rw [Array.getElem?_push, if_neg (by omega)]

theorem alloc_cell (w : World) (vs : List Value) (t : TypeId) (j : Nat) : (w.alloc (.cells vs.toArray t (0, 0))).cell? ⟨w.heap.size, j, none⟩ = vs[j]? := by
  simp

theorem mu_fresh {c : Ctx} {G : Gh} {ρ : St} {a : Act} {w : World} (h : Inv c G ρ a w) (x : Nat) : G.mu w.heap.size x = none := by
  cases hx : G.mu w.heap.size x with
  | none => rfl
  | some v => exact absurd (cell_lt (h.hmu _ _ _ hx)) (Nat.lt_irrefl _)

theorem Inv.newBox {c : Ctx} {G : Gh} {ρ : St} {a : Act} {w : World} (h : Inv c G ρ a w) (s : Nat) (hsn : s < ρ.n) (cs : List X) (vs : List Value) (t : TypeId)
    (hl : cs.length = vs.length) (hf : ∀ x ∈ cs, cellX x = true) (hr : ∀ (j : Nat) (x : X) (u : Value), cs[j]? = some x → vs[j]? = some u → RepX G ρ.ob x u) :
    Inv c (G.at s w.heap.size 0) { ρ with ob := upd ρ.ob s (.box ((ρ.ob s).gen + 1) cs) } a (w.alloc (.cells vs.toArray t (0, 0))) ∧
      RepX (G.at s w.heap.size 0) (upd ρ.ob s (.box ((ρ.ob s).gen + 1) cs)) (.addr s ((ρ.ob s).gen + 1) 0) (.pointer (some ⟨w.heap.size, 0, none⟩)) := by
  have later : Later G ρ.ob (G.at s w.heap.size 0) (upd ρ.ob s (.box ((ρ.ob s).gen + 1) cs)) :=
    Later.fresh (by simp [Ob.gen]) (fun t ht => ⟨upd_ne _ _ ht, upd_ne _ _ ht⟩) (fun _ _ _ k => k) (fun _ _ _ k => k)
  constructor
  · refine h.change s _ _ _ w.heap.size rfl (fun t ht => ⟨upd_ne _ _ ht, upd_ne _ _ ht⟩) (upd_same _ _ _) (fun _ _ _ k => k) (fun _ _ _ k => .inl k) (.inl ⟨Nat.le_refl _, hsn⟩)
      (fun k h1 h2 => alloc_block w _ h1 h2) (by simp) rfl rfl rfl later ?_ ?_ ?_ (fun g mt z es x e => by cases e) (fun g mt z es e => by cases e) trivial
    · refine ⟨w.heap.size, upd_same _ _ _, by simp, hf, fun o ho => by simp, fun j x hj => ?_⟩
      rw [alloc_cell]
      obtain ⟨hjl, _⟩ := List.getElem?_eq_some_iff.1 hj
      have hv : vs[j]? = some (vs[j]'(by omega)) := List.getElem?_eq_getElem (by omega)
      exact ⟨_, hv, (hr j x _ hj hv).later later⟩
    · intro x v k; rw [mu_fresh h] at k; cases k
    · intro g cs' x _; exact mu_fresh h x
  · exact .addr (by simp [Ob.gen]) fun cs' _ => ⟨w.heap.size, upd_same _ _ _, rfl⟩

theorem Inv.newRow {c : Ctx} {G : Gh} {ρ : St} {a : Act} {w : World} (h : Inv c G ρ a w) (s : Nat) (hs : s < ρ.n) (z : Nat) (es : List (List V)) (cap : Nat) (vs : List Value) (t : TypeId)
    (hz : ∀ e ∈ es, e.length = z) (hf : ∀ e ∈ es, ∀ x ∈ e, x.flat = true) (hc : es.length ≤ cap) (hl : cap * z ≤ vs.length)
    (hr : ∀ (i : Nat) (e : List V) (j : Nat) (x : V), es[i]? = some e → e[j]? = some x → ∃ u, vs[i * z + j]? = some u ∧ RepV G.mu x u) :
    Inv c (G.at s w.heap.size cap) { ρ with ob := upd ρ.ob s (.row ((ρ.ob s).gen + 1) true z es) } a (w.alloc (.cells vs.toArray t (0, 0))) ∧
      RepX (G.at s w.heap.size cap) (upd ρ.ob s (.row ((ρ.ob s).gen + 1) true z es)) (.own s ((ρ.ob s).gen + 1) 0 es.length) (.slice (some ⟨w.heap.size, 0, none⟩) es.length cap) := by
  have later : Later G ρ.ob (G.at s w.heap.size cap) (upd ρ.ob s (.row ((ρ.ob s).gen + 1) true z es)) :=
    Later.fresh (by simp [Ob.gen]) (fun t ht => ⟨upd_ne _ _ ht, upd_ne _ _ ht⟩) (fun _ _ _ k => k) (fun _ _ _ k => k)
  constructor
  · refine h.change s _ _ _ w.heap.size rfl (fun t ht => ⟨upd_ne _ _ ht, upd_ne _ _ ht⟩) (upd_same _ _ _) (fun _ _ _ k => k) (fun _ _ _ k => .inl k) (.inl ⟨Nat.le_refl _, hs⟩)
      (fun k h1 h2 => alloc_block w _ h1 h2) (by simp) rfl rfl rfl later ?_ ?_ (fun g cs x e => by cases e) ?_ (fun g mt z es e => hs) trivial
    · refine ⟨w.heap.size, upd_same _ _ _, by simp, hz, hf, by simp [Gh.at]; exact hc, fun o ho => ?_, fun i e j x hi hj => ?_⟩
      · rw [alloc_cell]
        simp only [Gh.at, upd_same] at ho
        exact ⟨by simp, by simp; omega⟩
      · rw [alloc_cell]
        obtain ⟨u, hu, hv⟩ := hr i e j x hi hj
        exact ⟨u, hu, hv, fun e => by cases e⟩
    · intro x v k; rw [mu_fresh h] at k; cases k
    · intro g mt z es x _ _; exact mu_fresh h x
  · refine .own (by simp [Ob.gen]) fun mt z' es' e => ?_
    rw [upd_same] at e; cases e
    exact ⟨by simp, hc, w.heap.size, upd_same _ _ _, fun _ => by simp, fun _ => ⟨rfl, by simp [Gh.at]⟩⟩

theorem Inv.newMap {c : Ctx} {G : Gh} {ρ : St} {a : Act} {w : World} (h : Inv c G ρ a w) (s : Nat) (hs : s < ρ.n) :
    Inv c (G.at s w.heap.size 0) { ρ with ob := upd ρ.ob s (.mp ((ρ.ob s).gen + 1) []) } a (w.alloc (.map #[] 0)) ∧
      RepX (G.at s w.heap.size 0) (upd ρ.ob s (.mp ((ρ.ob s).gen + 1) [])) (.mapr s ((ρ.ob s).gen + 1)) (.map (some w.heap.size)) := by
  have later : Later G ρ.ob (G.at s w.heap.size 0) (upd ρ.ob s (.mp ((ρ.ob s).gen + 1) [])) :=
    Later.fresh (by simp [Ob.gen]) (fun t ht => ⟨upd_ne _ _ ht, upd_ne _ _ ht⟩) (fun _ _ _ k => k) (fun _ _ _ k => k)
  constructor
  · refine h.change s _ _ _ w.heap.size rfl (fun t ht => ⟨upd_ne _ _ ht, upd_ne _ _ ht⟩) (upd_same _ _ _) (fun _ _ _ k => k) (fun _ _ _ k => .inl k) (.inl ⟨Nat.le_refl _, hs⟩)
      (fun k h1 h2 => alloc_block w _ h1 h2) (by simp) rfl rfl rfl later ?_ ?_ (fun g cs x e => by cases e) (fun g mt z es x e => by cases e) (fun g mt z es e => by cases e) trivial
    · exact ⟨w.heap.size, upd_same _ _ _, by simp, #[], 0, by show (w.heap.push _)[w.heap.size]? = _; simp, rfl, fun i e m hi => by simp at hi⟩
    · intro x v k; rw [mu_fresh h] at k; cases k
  · exact .mapr (by simp [Ob.gen]) fun es _ => upd_same _ _ _

/-- A map is written. -/
theorem Inv.setMap {c : Ctx} {G : Gh} {ρ : St} {a : Act} {w : World} (h : Inv c G ρ a w) {s g : Nat} {es0 : List (Value × V)} (hs : ρ.ob s = .mp g es0) {b : Nat} (hb : G.m s = some b)
    (es : List (Value × V)) (en : Array MapEntry) (k : Nat) (hl : en.size = es.length) (hr : ∀ (i : Nat) (e : Value × V) (m : MapEntry), es[i]? = some e → en[i]? = some m → m.key = e.1 ∧ RepV G.mu e.2 m.val) :
    Inv c G { ρ with ob := upd ρ.ob s (.mp g es) } a { w with heap := w.heap.setIfInBounds b (.map en k) } := by
  obtain ⟨b', hb', hlt, en0, k0, h3, h4, h5⟩ : RepOb G ρ.ob w s (.mp g es0) := by have := h.objs s; rwa [hs] at this
  rw [hb] at hb'; cases hb'
  have later : Later G ρ.ob G (upd ρ.ob s (.mp g es)) := Later.mp' hs
  refine h.change s _ G _ b rfl (fun t ht => ⟨rfl, rfl⟩) hb (fun _ _ _ k => k) (fun _ _ _ k => .inl k) (.inr ⟨by rw [hs]; trivial, hb⟩)
    (fun k h1 _ => by rw [Array.getElem?_setIfInBounds, if_neg (fun e : b = k => h1 e.symm)]) (by simp) rfl rfl rfl later ?_ ?_ (fun g cs x e => by cases e) (fun g mt z es x e => by cases e) (fun g mt z es e => by cases e) trivial
  · exact ⟨b, hb, by simpa using hlt, en, k, by simp [Array.getElem?_setIfInBounds, hlt], hl, hr⟩
  · intro x v k
    have := h.hmu _ _ _ k
    rw [show w.cell? ⟨b, x, none⟩ = none from by simp [World.cell?, h3]] at this
    cases this

/-! ### cells written -/
theorem setCells_other {w : World} {b : Nat} : ∀ (vs : List Value) (o : Nat) (w : World) (k : Nat), k ≠ b → (w.setCells b o vs).heap[k]? = w.heap[k]?
  | [], _, _, _, _ => rfl
  | v :: r, o, w, k, h => by
    rw [World.setCells, setCells_other (w := w) r (o + 1) _ k h]
    simp only [World.setCell, Array.getElem?_modify]
    rw [if_neg (fun e => h e.symm)]

theorem setCells_size {b : Nat} : ∀ (vs : List Value) (o : Nat) (w : World), (w.setCells b o vs).heap.size = w.heap.size ∧ (w.setCells b o vs).os = w.os ∧ (w.setCells b o vs).tape = w.tape ∧ (w.setCells b o vs).output = w.output
  | [], _, _ => ⟨rfl, rfl, rfl, rfl⟩
  | v :: r, o, w => by
    rw [World.setCells]
    obtain ⟨h1, h2, h3, h4⟩ := setCells_size (b := b) r (o + 1) (w.setCell ⟨b, o, none⟩ v)
    exact ⟨h1.trans (by simp), h2, h3, h4⟩

theorem setCells_frozen {b : Nat} : ∀ (vs : List Value) (o : Nat) (w : World) (p : Addr), (w.setCells b o vs).frozen? p = w.frozen? p
  | [], _, _, _ => rfl
  | v :: r, o, w, p => by rw [World.setCells, setCells_frozen r]; simp

theorem setCells_cell {b : Nat} : ∀ (vs : List Value) (o : Nat) (w : World) (k : Nat), (∀ j, j < vs.length → (w.cell? ⟨b, o + j, none⟩).isSome = true) →
    (w.setCells b o vs).cell? ⟨b, k, none⟩ = if o ≤ k ∧ k < o + vs.length then vs[k - o]? else w.cell? ⟨b, k, none⟩
  | [], o, w, k, _ => by simp [World.setCells]; intro h1 h2; omega
  | v :: r, o, w, k, h => by
    obtain ⟨u0, hu0⟩ := Option.isSome_iff_exists.1 (h 0 (by simp))
    rw [Nat.add_zero] at hu0
    rw [World.setCells, setCells_cell r (o + 1) _ k (fun j hj => by
      rw [World.cell?_setCell_other _ _ _ _ (by simp)]
      have := h (j + 1) (by simp; omega)
      rwa [show o + (j + 1) = o + 1 + j by omega] at this)]
    by_cases e : k = o
    · subst e
      rw [if_neg (by omega), if_pos (by simp), World.cell?_setCell_same _ _ _ hu0]
      simp
    · rw [World.cell?_setCell_other _ _ _ _ (by first | (simp; done) | (simp; omega))]
      by_cases h2 : o + 1 ≤ k ∧ k < o + 1 + r.length
      · rw [if_pos h2, if_pos (by simp; omega), show k - o = (k - (o + 1)) + 1 by omega]; simp
      · rw [if_neg h2, if_neg (by simp; omega)]

theorem setRange_length : ∀ (xs : List X) (cs : List X) (off : Nat), (setRange cs off xs).length = cs.length
  | [], _, _ => rfl
  | x :: r, cs, off => by rw [setRange, setRange_length r]; simp

theorem setRange_get : ∀ (xs : List X) (cs : List X) (off k : Nat), off + xs.length ≤ cs.length →
    (setRange cs off xs)[k]? = if off ≤ k ∧ k < off + xs.length then xs[k - off]? else cs[k]?
  | [], _, off, k, _ => by simp [setRange]; intro h1 h2; omega
  | x :: r, cs, off, k, h => by
    simp only [List.length_cons] at h
    rw [setRange, setRange_get r _ _ _ (by simp; omega)]
    by_cases e : k = off
    · subst e; rw [if_neg (by omega), if_pos (by simp)]; simp
      rw [List.getElem?_set_self (by omega)]
    · by_cases h2 : off + 1 ≤ k ∧ k < off + 1 + r.length
      · rw [if_pos h2, if_pos (by simp; omega), show k - off = (k - (off + 1)) + 1 by omega]; simp
      · rw [if_neg h2, if_neg (by simp; omega), List.getElem?_set_ne (by omega)]

theorem setRangeV_length : ∀ (xs : List V) (cs : List V) (off : Nat), (setRangeV cs off xs).length = cs.length
  | [], _, _ => rfl
  | x :: r, cs, off => by rw [setRangeV, setRangeV_length r]; simp

theorem setRangeV_get : ∀ (xs : List V) (cs : List V) (off k : Nat), off + xs.length ≤ cs.length →
    (setRangeV cs off xs)[k]? = if off ≤ k ∧ k < off + xs.length then xs[k - off]? else cs[k]?
  | [], _, off, k, _ => by simp [setRangeV]; intro h1 h2; omega
  | x :: r, cs, off, k, h => by
    simp only [List.length_cons] at h
    rw [setRangeV, setRangeV_get r _ _ _ (by simp; omega)]
    by_cases e : k = off
    · subst e; rw [if_neg (by omega), if_pos (by simp)]; simp
      rw [List.getElem?_set_self (by omega)]
    · by_cases h2 : off + 1 ≤ k ∧ k < off + 1 + r.length
      · rw [if_pos h2, if_pos (by simp; omega), show k - off = (k - (off + 1)) + 1 by omega]; simp
      · rw [if_neg h2, if_neg (by simp; omega), List.getElem?_set_ne (by omega)]

theorem setRange_mem {xs cs : List X} {off : Nat} {x : X} (h : off + xs.length ≤ cs.length) (hx : x ∈ setRange cs off xs) : x ∈ xs ∨ x ∈ cs := by
  obtain ⟨k, hk⟩ := List.mem_iff_getElem?.1 hx
  rw [setRange_get _ _ _ _ h] at hk
  split at hk
  · exact .inl (List.mem_iff_getElem?.2 ⟨_, hk⟩)
  · exact .inr (List.mem_iff_getElem?.2 ⟨_, hk⟩)

theorem setRangeV_mem {xs cs : List V} {off : Nat} {x : V} (h : off + xs.length ≤ cs.length) (hx : x ∈ setRangeV cs off xs) : x ∈ xs ∨ x ∈ cs := by
  obtain ⟨k, hk⟩ := List.mem_iff_getElem?.1 hx
  rw [setRangeV_get _ _ _ _ h] at hk
  split at hk
  · exact .inl (List.mem_iff_getElem?.2 ⟨_, hk⟩)
  · exact .inr (List.mem_iff_getElem?.2 ⟨_, hk⟩)

/-- Cells of a box are written. -/
theorem Inv.setBox {c : Ctx} {G : Gh} {ρ : St} {a : Act} {w : World} (h : Inv c G ρ a w) {s g : Nat} {cs : List X} (hs : ρ.ob s = .box g cs) {b : Nat} (hb : G.m s = some b)
    (off : Nat) (xs : List X) (vs : List Value) (hoff : off + xs.length ≤ cs.length) (hl : xs.length = vs.length) (hf : ∀ x ∈ xs, cellX x = true)
    (hr : ∀ (j : Nat) (x : X) (u : Value), xs[j]? = some x → vs[j]? = some u → RepX G ρ.ob x u) :
    Inv c G { ρ with ob := upd ρ.ob s (.box g (setRange cs off xs)) } a (w.setCells b off vs) := by
  have later : Later G ρ.ob G (upd ρ.ob s (.box g (setRange cs off xs))) := Later.box' hs (fun _ => ⟨rfl, rfl⟩) (fun _ _ _ k => k) (fun _ _ _ k => k)
  obtain ⟨b', hb', hlt, hcf, hfz, hcs⟩ : RepOb G ρ.ob w s (.box g cs) := by have := h.objs s; rwa [hs] at this
  rw [hb] at hb'; cases hb'
  have hsz := setCells_size (b := b) vs off w
  have some' : ∀ j, j < cs.length → (w.cell? ⟨b, j, none⟩).isSome = true := fun j hj => by
    obtain ⟨u, hu, _⟩ := hcs j _ (List.getElem?_eq_getElem hj); rw [hu]; rfl
  have hcell : ∀ k, (w.setCells b off vs).cell? ⟨b, k, none⟩ = if off ≤ k ∧ k < off + vs.length then vs[k - off]? else w.cell? ⟨b, k, none⟩ :=
    fun k => setCells_cell vs off w k (fun j hj => some' _ (by omega))
  refine h.change s _ G _ b rfl (fun t ht => ⟨rfl, rfl⟩) hb (fun _ _ _ k => k) (fun _ _ _ k => .inl k) (.inr ⟨by rw [hs]; trivial, hb⟩)
    (fun k h1 _ => setCells_other (w := w) vs off w k h1) (by rw [hsz.1]; exact Nat.le_refl _) hsz.2.1 hsz.2.2.1 hsz.2.2.2 later ?_ ?_ ?_ (fun g mt z es x e => by cases e) (fun g mt z es e => by cases e) trivial
  · refine ⟨b, hb, by rw [hsz.1]; exact hlt, fun x hx => ?_, fun o ho => ?_, fun j x hj => ?_⟩
    · rcases setRange_mem hoff hx with k | k
      · exact hf x k
      · exact hcf x k
    · rw [setCells_frozen]; rw [setRange_length] at ho; exact hfz o ho
    · rw [setRange_get _ _ _ _ hoff] at hj
      rw [hcell]
      by_cases e : off ≤ j ∧ j < off + xs.length
      · rw [if_pos e] at hj
        rw [if_pos (by rw [← hl]; exact e)]
        have hv : vs[j - off]? = some (vs[j - off]'(by omega)) := List.getElem?_eq_getElem (by omega)
        exact ⟨_, hv, (hr _ _ _ hj hv).later later⟩
      · rw [if_neg e] at hj
        rw [if_neg (by rw [← hl]; exact e)]
        obtain ⟨u, hu, hx⟩ := hcs j x hj
        exact ⟨u, hu, hx.later later⟩
  · intro x v k; rw [h.sepb s g cs b x hs hb] at k; cases k
  · intro g' cs' x _; exact h.sepb s g cs b x hs hb

end Go.Dv

namespace Go.Dv
open Go

/-- place i * z + j tells i and j -/
theorem place_inj {z i j i' j' : Nat} (hj : j < z) (hj' : j' < z) (h : i * z + j = i' * z + j') : i = i' ∧ j = j' := by
  have h1 : (i * z + j) / z = i := by rw [Nat.mul_comm, Nat.mul_add_div (by omega), Nat.div_eq_of_lt hj]; omega
  have h2 : (i' * z + j') / z = i' := by rw [Nat.mul_comm, Nat.mul_add_div (by omega), Nat.div_eq_of_lt hj']; omega
  have e : i = i' := by rw [← h1, ← h2, h]
  subst e; exact ⟨rfl, by omega⟩

theorem place_lt {z i j n : Nat} (hi : i < n) (hj : j < z) : i * z + j < n * z := by
  have : (i + 1) * z ≤ n * z := Nat.mul_le_mul_right z hi
  rw [Nat.add_mul] at this; omega

theorem row_lt {es : List (List V)} {z i j : Nat} {e : List V} {x : V} (hz : ∀ e ∈ es, e.length = z) (hi : es[i]? = some e) (hj : e[j]? = some x) : i < es.length ∧ j < z := by
  obtain ⟨h1, h2⟩ := List.getElem?_eq_some_iff.1 hi
  obtain ⟨h3, _⟩ := List.getElem?_eq_some_iff.1 hj
  exact ⟨h1, by rw [← hz e (by rw [← h2]; exact List.getElem_mem h1)]; exact h3⟩

/-- An element's cells are written. -/
theorem Inv.setElt {c : Ctx} {G : Gh} {ρ : St} {a : Act} {w : World} (h : Inv c G ρ a w) {s g z : Nat} {es : List (List V)} (hs : ρ.ob s = .row g true z es) {b : Nat} (hb : G.m s = some b)
    (i : Nat) (e : List V) (hi : es[i]? = some e) (off : Nat) (xs : List V) (vs : List Value) (hoff : off + xs.length ≤ e.length) (hl : xs.length = vs.length) (hf : ∀ x ∈ xs, x.flat = true)
    (hr : ∀ (j : Nat) (x : V) (u : Value), xs[j]? = some x → vs[j]? = some u → RepV G.mu x u) :
    Inv c G { ρ with ob := upd ρ.ob s (.row g true z (es.set i (setRangeV e off xs))) } a (w.setCells b (i * z + off) vs) := by
  have later : Later G ρ.ob G (upd ρ.ob s (.row g true z (es.set i (setRangeV e off xs)))) := Later.row' hs (by simp) (fun _ => ⟨rfl, rfl⟩) (fun _ _ _ k => k) (fun _ _ _ k => k)
  obtain ⟨b', hb', hlt, hz, hff, hc, hfz, hcs⟩ : RepOb G ρ.ob w s (.row g true z es) := by have := h.objs s; rwa [hs] at this
  rw [hb] at hb'; cases hb'
  have hsz := setCells_size (b := b) vs (i * z + off) w
  obtain ⟨hil, hie⟩ := List.getElem?_eq_some_iff.1 hi
  have hez : e.length = z := hz e (by rw [← hie]; exact List.getElem_mem hil)
  have inrow : ∀ j, j < vs.length → i * z + off + j < G.cap s * z := fun j hj => by
    have := place_lt (z := z) (i := i) (j := off + j) (n := G.cap s) (by omega) (by omega); omega
  have hcell : ∀ k, (w.setCells b (i * z + off) vs).cell? ⟨b, k, none⟩ = if i * z + off ≤ k ∧ k < i * z + off + vs.length then vs[k - (i * z + off)]? else w.cell? ⟨b, k, none⟩ :=
    fun k => setCells_cell vs _ w k (fun j hj => (hfz _ (inrow j hj)).2)
  have mem_new : ∀ e' ∈ es.set i (setRangeV e off xs), e'.length = z ∧ ∀ x ∈ e', x.flat = true := by
    intro e' he'
    rcases List.mem_or_eq_of_mem_set he' with k | k
    · exact ⟨hz e' k, hff e' k⟩
    · subst k
      refine ⟨by rw [setRangeV_length]; exact hez, fun x hx => ?_⟩
      rcases setRangeV_mem hoff hx with k | k
      · exact hf x k
      · exact hff e (by rw [← hie]; exact List.getElem_mem hil) x k
  refine h.change s _ G _ b rfl (fun t ht => ⟨rfl, rfl⟩) hb (fun _ _ _ k => k) (fun _ _ _ k => .inl k) (.inr ⟨by rw [hs]; trivial, hb⟩)
    (fun k h1 _ => setCells_other (w := w) vs _ w k h1) (by rw [hsz.1]; exact Nat.le_refl _) hsz.2.1 hsz.2.2.1 hsz.2.2.2 later ?_ ?_ (fun g cs x e => by cases e) ?_ (fun g mt z es _ => h.rown s _ _ _ _ hs) trivial
  · refine ⟨b, hb, by rw [hsz.1]; exact hlt, fun e' he' => (mem_new e' he').1, fun e' he' => (mem_new e' he').2, by simpa using hc, fun o ho => ?_, fun i' e' j x hi' hj => ?_⟩
    · rw [setCells_frozen, hcell]
      refine ⟨(hfz o ho).1, ?_⟩
      split
      · rw [List.getElem?_eq_getElem (by omega)]; rfl
      · exact (hfz o ho).2
    · have hz' : ∀ e2 ∈ es.set i (setRangeV e off xs), e2.length = z := fun e' he' => (mem_new e' he').1
      obtain ⟨hi'l, hjz⟩ := row_lt hz' hi' hj
      rw [List.length_set] at hi'l
      rw [hcell]
      by_cases hii : i' = i
      · subst hii
        rw [List.getElem?_set_self (by simpa using hi'l)] at hi'
        cases hi'
        rw [setRangeV_get _ _ _ _ hoff] at hj
        by_cases ho : off ≤ j ∧ j < off + xs.length
        · rw [if_pos ho] at hj
          rw [if_pos (by omega), show i' * z + j - (i' * z + off) = j - off by omega]
          have hv : vs[j - off]? = some (vs[j - off]'(by omega)) := List.getElem?_eq_getElem (by omega)
          exact ⟨_, hv, hr _ _ _ hj hv, fun k => by cases k⟩
        · rw [if_neg ho] at hj
          rw [if_neg (by omega)]
          obtain ⟨u, hu, hx, _⟩ := hcs i' e j x hi hj
          exact ⟨u, hu, hx, fun k => by cases k⟩
      · rw [List.getElem?_set_ne (fun k => hii k.symm)] at hi'
        have hne : ¬ (i * z + off ≤ i' * z + j ∧ i' * z + j < i * z + off + vs.length) := by
          intro ⟨h1, h2⟩
          have : i' * z + j = i * z + (i' * z + j - i * z) := by omega
          have := place_inj (z := z) hjz (by omega) this
          exact hii this.1
        rw [if_neg hne]
        obtain ⟨u, hu, hx, _⟩ := hcs i' e' j x hi' hj
        exact ⟨u, hu, hx, fun k => by cases k⟩
  · intro x v k; rw [h.sepr s g true z es b x hs hb (.inl rfl)] at k; cases k
  · intro g' mt z' es' x e' _; exact h.sepr s g true z es b x hs hb (.inl rfl)

/-- The sealed memory with a row's cells. -/
def sealed (mu : Mem) (w : World) (b n : Nat) : Mem := fun b' o => if b' = b ∧ o < n then w.cell? ⟨b, o, none⟩ else mu b' o

/-- A row is sealed: from now on it is data. -/
theorem Inv.sealRow {c : Ctx} {G : Gh} {ρ : St} {a : Act} {w : World} (h : Inv c G ρ a w) {s g z : Nat} {es : List (List V)} (hs : ρ.ob s = .row g true z es) :
    ∃ G', G'.lam = G.lam ∧ Inv c G' { ρ with ob := upd ρ.ob s (.row g false z es) } a w ∧ Later G ρ.ob G' (upd ρ.ob s (.row g false z es)) := by
  obtain ⟨b, hb, hlt, hz, hff, hc, hfz, hcs⟩ : RepOb G ρ.ob w s (.row g true z es) := by have := h.objs s; rwa [hs] at this
  have mun : ∀ x, G.mu b x = none := fun x => h.sepr s g true z es b x hs hb (.inl rfl)
  have incap : es.length * z ≤ G.cap s * z := Nat.mul_le_mul_right z hc
  have hmu : ∀ b' x v, G.mu b' x = some v → sealed G.mu w b (es.length * z) b' x = some v := by
    intro b' x v k
    unfold sealed
    split
    · rename_i hh; obtain ⟨rfl, _⟩ := hh; rw [mun] at k; cases k
    · exact k
  have later : Later G ρ.ob { G with mu := sealed G.mu w b (es.length * z) } (upd ρ.ob s (.row g false z es)) := Later.row' hs (Nat.le_refl _) (fun _ => ⟨rfl, rfl⟩) hmu (fun _ _ _ k => k)
  refine ⟨{ G with mu := sealed G.mu w b (es.length * z) }, rfl, ?_, later⟩
  refine h.change s _ { G with mu := sealed G.mu w b (es.length * z) } w b rfl (fun t ht => ⟨rfl, rfl⟩) hb hmu ?_ (.inr ⟨by rw [hs]; trivial, hb⟩) (fun k _ _ => rfl) (Nat.le_refl _) rfl rfl rfl later ?_
    ?_ (fun g cs x e => by cases e) ?_ (fun g mt z es _ => h.rown s _ _ _ _ hs) trivial
  · intro b' x v k
    show _ ∨ _
    simp only [sealed] at k
    split at k
    · rename_i hh; obtain ⟨rfl, _⟩ := hh; exact .inr ⟨rfl, k⟩
    · exact .inl k
  · refine ⟨b, hb, hlt, hz, hff, hc, hfz, fun i e j x hi hj => ?_⟩
    obtain ⟨u, hu, hx, _⟩ := hcs i e j x hi hj
    obtain ⟨h1, h2⟩ := row_lt hz hi hj
    refine ⟨u, hu, hx.mono hmu, fun _ => ?_⟩
    show sealed G.mu w b (es.length * z) b (i * z + j) = some u
    unfold sealed
    rw [if_pos ⟨rfl, place_lt h1 h2⟩]; exact hu
  · intro x v k; rw [mun] at k; cases k
  · intro g' mt z' es' x e hx
    cases e
    rcases hx with hx | hx
    · cases hx
    · show sealed G.mu w b (es.length * z) b x = none
      unfold sealed
      rw [if_neg (by omega)]; exact mun x

/-- What an own slice reads as, once its row is sealed. -/
theorem own_sealed {c : Ctx} {G : Gh} {ρ : St} {a : Act} {w : World} (h : Inv c G ρ a w) {s g z lo n : Nat} {es : List (List V)} {u : Value} (hs : ρ.ob s = .row g false z es)
    (hx : RepX G ρ.ob (.own s g lo n) u) : RepV G.mu (.sl z ((es.drop lo).take n)) u := by
  obtain ⟨b, hb, hlt, hz, hff, hc, hfz, hcs⟩ : RepOb G ρ.ob w s (.row g false z es) := by have := h.objs s; rwa [hs] at this
  cases hx with
  | @own _ _ _ _ cap a hg hh =>
    obtain ⟨h1, h2, b', hb', h3, h4⟩ := hh false z es hs
    rw [hb] at hb'; cases hb'
    have hlen : ((es.drop lo).take n).length = n := by simp; omega
    refine RepSl.toV ⟨some a, cap, by rw [hlen], fun e he => hz e (List.mem_of_mem_drop (List.mem_of_mem_take he)), fun e he => hff e (List.mem_of_mem_drop (List.mem_of_mem_take he)), by omega,
      (fun k => by cases k), (fun ad had hne => ?_), (fun ad i e j x had hi hj => ?_)⟩
    · cases had
      have : 0 < n := by
        cases n with
        | zero => simp at hne
        | succ n => omega
      rw [h3 this]
    · cases had
      have hin : i < n := by
        have := (List.getElem?_eq_some_iff.1 hi).1; omega
      have ha := h3 (by omega)
      rw [List.getElem?_take_of_lt hin, List.getElem?_drop] at hi
      obtain ⟨u, hu, hv, hk⟩ := hcs (lo + i) e j x hi hj
      refine ⟨u, ?_, hv⟩
      rw [ha]
      show G.mu b (lo * z + i * z + j) = some u
      rw [← Nat.add_mul]; exact hk rfl

/-- What an own slice reads as while its row is lent. -/
theorem own_reads {c : Ctx} {G : Gh} {ρ : St} {a : Act} {w : World} (h : Inv c G ρ a w) {s g z lo n : Nat} {mt : Bool} {es : List (List V)} {u : Value} (hs : ρ.ob s = .row g mt z es)
    (hx : RepX G ρ.ob (.own s g lo n) u) : RepSl (fun b o v => w.cell? ⟨b, o, none⟩ = some v ∧ G.m s = some b ∧ o < es.length * z) G.mu z ((es.drop lo).take n) u := by
  obtain ⟨b, hb, hlt, hz, hff, hc, hfz, hcs⟩ : RepOb G ρ.ob w s (.row g mt z es) := by have := h.objs s; rwa [hs] at this
  cases hx with
  | @own _ _ _ _ cap a hg hh =>
    obtain ⟨h1, h2, b', hb', h3, h4⟩ := hh mt z es hs
    rw [hb] at hb'; cases hb'
    have hlen : ((es.drop lo).take n).length = n := by simp; omega
    refine ⟨some a, cap, by rw [hlen], fun e he => hz e (List.mem_of_mem_drop (List.mem_of_mem_take he)), fun e he => hff e (List.mem_of_mem_drop (List.mem_of_mem_take he)), by omega,
      (fun k => by cases k), (fun ad had hne => ?_), (fun ad i e j x had hi hj => ?_)⟩
    · cases had
      have : 0 < n := by
        cases n with
        | zero => simp at hne
        | succ n => omega
      rw [h3 this]
    · cases had
      have hin : i < n := by
        have := (List.getElem?_eq_some_iff.1 hi).1; omega
      have ha := h3 (by omega)
      rw [List.getElem?_take_of_lt hin, List.getElem?_drop] at hi
      obtain ⟨u, hu, hv, hk⟩ := hcs (lo + i) e j x hi hj
      obtain ⟨hl1, hl2⟩ := row_lt hz hi hj
      refine ⟨u, ?_, hv⟩
      rw [ha]
      show w.cell? ⟨b, lo * z + i * z + j, none⟩ = some u ∧ _
      rw [← Nat.add_mul]; exact ⟨hu, hb, place_lt hl1 hl2⟩

end Go.Dv

namespace Go.Dv
open Go

theorem Inv.rowNew {c : Ctx} {G : Gh} {ρ : St} {a : Act} {w : World} (h : Inv c G ρ a w) {s g z : Nat} {mt : Bool} {es : List (List V)} (hs : ρ.ob s = .row g mt z es)
    (nb : Nat) (w' : World) (cap' : Nat) (es2 : List (List V)) (hnb : w.heap.size ≤ nb ∨ G.m s = some nb)
    (hblk : ∀ k, k ≠ nb → k < w.heap.size → w'.heap[k]? = w.heap[k]?) (hsize : w.heap.size ≤ w'.heap.size)
    (ho : w'.os = w.os) (ht : w'.tape = w.tape) (hp : w'.output = w.output) (hlt : nb < w'.heap.size)
    (hold : ∀ x v, G.mu nb x = some v → w'.cell? ⟨nb, x, none⟩ = some v)
    (hz2 : ∀ e ∈ es2, e.length = z) (hf2 : ∀ e ∈ es2, ∀ x ∈ e, x.flat = true) (hc : es2.length ≤ cap') (hge : es.length ≤ es2.length)
    (hfz : ∀ o, o < cap' * z → w'.frozen? ⟨nb, o, none⟩ = false ∧ (w'.cell? ⟨nb, o, none⟩).isSome = true)
    (hcs : ∀ (i : Nat) (e : List V) (j : Nat) (x : V), es2[i]? = some e → e[j]? = some x → ∃ u, w'.cell? ⟨nb, i * z + j, none⟩ = some u ∧ RepV G.mu x u) :
    ∃ G', G'.lam = G.lam ∧ Inv c G' { ρ with ob := upd ρ.ob s (.row (g + 1) mt z es2) } a w' ∧
      RepX G' (upd ρ.ob s (.row (g + 1) mt z es2)) (.own s (g + 1) 0 es2.length) (.slice (some ⟨nb, 0, none⟩) es2.length cap') := by
  obtain ⟨b0, hb0, hlt0, _⟩ : RepOb G ρ.ob w s (.row g mt z es) := by have := h.objs s; rwa [hs] at this
  have munone : ∀ x, (mt = true ∨ es2.length * z ≤ x) → G.mu nb x = none := by
    intro x hx
    rcases hnb with hn | hn
    · cases k : G.mu nb x with
      | none => rfl
      | some v => exact absurd (cell_lt (h.hmu _ _ _ k)) (by omega)
    · exact h.sepr s g mt z es nb x hs hn (hx.imp id fun k => Nat.le_trans (Nat.mul_le_mul_right z hge) k)
  let mu' : Mem := if mt = true then G.mu else sealed G.mu w' nb (es2.length * z)
  have hmu : ∀ b x v, G.mu b x = some v → mu' b x = some v := by
    intro b x v k
    show (if mt = true then G.mu else sealed G.mu w' nb (es2.length * z)) b x = some v
    split
    · exact k
    · unfold sealed
      split
      · rename_i hh; obtain ⟨rfl, _⟩ := hh; exact hold x v k
      · exact k
  have later : Later G ρ.ob { mu := mu', lam := G.lam, m := upd G.m s (some nb), cap := upd G.cap s cap' } (upd ρ.ob s (.row (g + 1) mt z es2)) :=
    Later.fresh (by rw [hs]; simp [Ob.gen]) (fun t ht => ⟨upd_ne _ _ ht, upd_ne _ _ ht⟩) hmu (fun _ _ _ k => k)
  refine ⟨{ mu := mu', lam := G.lam, m := upd G.m s (some nb), cap := upd G.cap s cap' }, rfl, ?_, ?_⟩
  · refine h.change s _ _ w' nb rfl (fun t ht => ⟨upd_ne _ _ ht, upd_ne _ _ ht⟩) (upd_same _ _ _) hmu ?_ (hnb.imp (fun k => ⟨k, h.rown s _ _ _ _ hs⟩) fun k => ⟨by rw [hs]; trivial, k⟩) hblk hsize ho ht hp later ?_
      hold (fun g cs x e => by cases e) ?_ (fun _ _ _ _ _ => h.rown s _ _ _ _ hs) trivial
    · intro b x v k
      have k' : (if mt = true then G.mu else sealed G.mu w' nb (es2.length * z)) b x = some v := k
      split at k'
      · exact .inl k'
      · unfold sealed at k'
        split at k'
        · rename_i hh; obtain ⟨rfl, _⟩ := hh; exact .inr ⟨rfl, k'⟩
        · exact .inl k'
    · refine ⟨nb, upd_same _ _ _, hlt, hz2, hf2, by simpa using hc, fun o ho => hfz o (by simpa using ho), fun i e j x hi hj => ?_⟩
      obtain ⟨u, hu, hx⟩ := hcs i e j x hi hj
      obtain ⟨h1, h2⟩ := row_lt hz2 hi hj
      refine ⟨u, hu, hx.mono hmu, fun e => ?_⟩
      show (if mt = true then G.mu else sealed G.mu w' nb (es2.length * z)) nb (i * z + j) = some u
      rw [e, if_neg (by simp)]
      unfold sealed
      rw [if_pos ⟨rfl, place_lt h1 h2⟩]; exact hu
    · intro g' mt' z' es' x e hx
      cases e
      show (if mt = true then G.mu else sealed G.mu w' nb (es2.length * z)) nb x = none
      split
      · exact munone x hx
      · rename_i hmt
        unfold sealed
        rw [if_neg (by rcases hx with hx | hx; exact absurd hx hmt; omega)]
        exact munone x hx
  · refine .own (by simp [Ob.gen]) fun mt' z' es' e => ?_
    rw [upd_same] at e; cases e
    exact ⟨by simp, hc, nb, upd_same _ _ _, fun _ => by simp, fun _ => ⟨rfl, by simp⟩⟩

/-- A row's elements are others, as many as before. -/
theorem Inv.rowOver {c : Ctx} {G : Gh} {ρ : St} {a : Act} {w : World} (h : Inv c G ρ a w) {s g z b : Nat} {es : List (List V)} (hs : ρ.ob s = .row g true z es) (hb : G.m s = some b)
    (w' : World) (es2 : List (List V))
    (hblk : ∀ k, k ≠ b → k < w.heap.size → w'.heap[k]? = w.heap[k]?) (hsize : w'.heap.size = w.heap.size)
    (ho : w'.os = w.os) (ht : w'.tape = w.tape) (hp : w'.output = w.output)
    (hz2 : ∀ e ∈ es2, e.length = z) (hf2 : ∀ e ∈ es2, ∀ x ∈ e, x.flat = true) (hge : es2.length = es.length)
    (hfz : ∀ o, o < G.cap s * z → w'.frozen? ⟨b, o, none⟩ = false ∧ (w'.cell? ⟨b, o, none⟩).isSome = true)
    (hcs : ∀ (i : Nat) (e : List V) (j : Nat) (x : V), es2[i]? = some e → e[j]? = some x → ∃ u, w'.cell? ⟨b, i * z + j, none⟩ = some u ∧ RepV G.mu x u) :
    Inv c G { ρ with ob := upd ρ.ob s (.row g true z es2) } a w' := by
  obtain ⟨b0, hb0, hlt0, _, _, hc0, _⟩ : RepOb G ρ.ob w s (.row g true z es) := by have := h.objs s; rwa [hs] at this
  rw [hb] at hb0; cases hb0
  have later : Later G ρ.ob G (upd ρ.ob s (.row g true z es2)) := Later.row' hs (by omega) (fun _ => ⟨rfl, rfl⟩) (fun _ _ _ k => k) (fun _ _ _ k => k)
  refine h.change s _ G w' b rfl (fun t ht => ⟨rfl, rfl⟩) hb (fun _ _ _ k => k) (fun _ _ _ k => .inl k) (.inr ⟨by rw [hs]; trivial, hb⟩) hblk (by omega) ho ht hp later ?_
    (fun x v k => ?_) (fun g cs x e => by cases e) (fun g' mt' z' es' x e hx => ?_) (fun _ _ _ _ _ => h.rown s _ _ _ _ hs) trivial
  · refine ⟨b, hb, by rw [hsize]; exact hlt0, hz2, hf2, by rw [hge]; exact hc0, hfz, fun i e j x hi hj => ?_⟩
    obtain ⟨u, hu, hx⟩ := hcs i e j x hi hj
    exact ⟨u, hu, hx, fun e => by cases e⟩
  · rw [h.sepr s g true z es b x hs hb (.inl rfl)] at k; cases k
  · exact h.sepr s g true z es b x hs hb (.inl rfl)

/-- The cells of elements, in memory's order. -/
def flatV (es : List (List V)) : List V := es.flatten

theorem flatten_get {α : Type} {z : Nat} : ∀ (es : List (List α)) (i j : Nat) (e : List α), (∀ e ∈ es, e.length = z) → es[i]? = some e → j < z → es.flatten[i * z + j]? = e[j]?
  | [], i, j, e, _, h, _ => by simp at h
  | e0 :: r, 0, j, e, hz, h, hj => by
    simp at h; subst h
    have := hz e0 (by simp)
    rw [List.flatten_cons, Nat.zero_mul, Nat.zero_add, List.getElem?_append_left (by omega)]
  | e0 :: r, i + 1, j, e, hz, h, hj => by
    have h0 := hz e0 (by simp)
    simp at h
    rw [List.flatten_cons, List.getElem?_append_right (by rw [h0, Nat.add_mul]; omega)]
    rw [show (i + 1) * z + j - e0.length = i * z + j by rw [h0, Nat.add_mul]; omega]
    exact flatten_get r i j e (fun e he => hz e (by simp [he])) h hj

theorem flatten_len {α : Type} {z : Nat} : ∀ (es : List (List α)), (∀ e ∈ es, e.length = z) → es.flatten.length = es.length * z
  | [], _ => by simp
  | e0 :: r, hz => by
    rw [List.flatten_cons, List.length_append, hz e0 (by simp), flatten_len r (fun e he => hz e (by simp [he])), List.length_cons, Nat.add_mul]; omega

end Go.Dv

namespace Go.Dv
open Go

/-- A step ends so. -/
def Ef.go {α : Type} (e : Ef α) (H : Nat → Ob) (o : α) (H' : Nat → Ob) : Prop := ∃ r w, e.run H = some (o, H', r, w)

theorem go_ret {α : Type} {a o : α} {H H' : Nat → Ob} (h : (Ef.ret a).go H o H') : a = o ∧ H = H' := by
  obtain ⟨r, w, h⟩ := h
  simp only [Ef.run, Option.some.injEq, Prod.mk.injEq] at h
  exact ⟨h.1, h.2.1⟩
theorem go_fail {α : Type} {o : α} {H H' : Nat → Ob} (h : (Ef.fail : Ef α).go H o H') : False := by
  obtain ⟨r, w, h⟩ := h; simp [Ef.run] at h
theorem go_get {α : Type} {s : Nat} {k : Ob → Ef α} {o : α} {H H' : Nat → Ob} (h : (Ef.get s k).go H o H') : (k (H s)).go H o H' := by
  obtain ⟨r, w, h⟩ := h
  simp only [Ef.run] at h
  split at h
  · rename_i a H2 r2 w2 e
    simp only [Option.some.injEq, Prod.mk.injEq] at h
    obtain ⟨rfl, rfl, _, _⟩ := h
    exact ⟨_, _, e⟩
  · cases h
theorem go_put {α : Type} {s : Nat} {ob : Ob} {k : Ef α} {o : α} {H H' : Nat → Ob} (h : (Ef.put s ob k).go H o H') : k.go (upd H s ob) o H' := by
  obtain ⟨r, w, h⟩ := h
  simp only [Ef.run] at h
  split at h
  · rename_i a H2 r2 w2 e
    simp only [Option.some.injEq, Prod.mk.injEq] at h
    obtain ⟨rfl, rfl, _, _⟩ := h
    exact ⟨_, _, e⟩
  · cases h
theorem go_ov {α β : Type} {x : Option α} {k : α → Ef β} {o : β} {H H' : Nat → Ob} (h : (ov x k).go H o H') : ∃ y, x = some y ∧ (k y).go H o H' := by
  cases x with
  | none => exact (go_fail h).elim
  | some y => exact ⟨y, rfl, h⟩
theorem go_num {α : Type} {x : X} {k : Int → Ef α} {o : α} {H H' : Nat → Ob} (h : (num x k).go H o H') : ∃ kd n, x = .v (.lit (.int kd n)) ∧ (k n).go H o H' := by
  unfold num at h
  split at h
  · exact ⟨_, _, rfl, h⟩
  · exact (go_fail h).elim

/-- What the table of types must tell rightly. -/
def zeroOk (zx : List X) (vs : List Value) : Prop := zx.length = vs.length ∧ ∀ (j : Nat) (x : X) (u : Value), zx[j]? = some x → vs[j]? = some u → (∃ z, x = .nil z ∧ u = .slice none 0 0) ∨ (x = .v (.lit u) ∧ scal u = true)

structure Fact (P : Program) (L : Lite) (t : TypeId) : Prop where
  und : P.underlying t = some (L.ti t).und
  info : ∃ i, P.info? t = some i ∧ i.size = (L.ti t).size ∧ i.bytes = (L.ti t).bytes ∧ ∀ zx, (L.ti t).zero = some zx → ∃ v, i.zero = some v ∧ zeroOk zx v.cells.toList ∧ (L.ti t).size = zx.length
  one : ∀ i v, P.info? t = some i → (L.ti t).kd = 1 → (L.ti t).zero.isSome = true → i.zero = some v → v.cells = #[v]
  kd : (L.ti t).kd = match (L.ti t).und with | .struct _ => 2 | .array _ _ => 2 | .invalid => 0 | _ => 1

structure LiteOk (P : Program) (L : Lite) : Prop where
  mixed : P.follows .mixedOrders = true
  fact : ∀ t, (L.ti t).und ≠ .invalid → Fact P L t
  kd : ∀ t, (L.ti t).und = .invalid → (L.ti t).kd = 0
  nozero : ∀ t, (L.ti t).und = .invalid → (L.ti t).zero = none
  slice : ∀ t e, (L.ti t).und = .slice e → (L.ti e).und ≠ .invalid
  array : ∀ t n e, (L.ti t).und = .array n e → (L.ti e).und ≠ .invalid
  struct : ∀ t fs (f : Nat) fd, (L.ti t).und = .struct fs → fs[f]? = some fd → (L.ti fd.type).und ≠ .invalid
  fn : ∀ f fn, L.fn.getD f .none = some fn → P.funcs[f]? = some fn ∧ fn.body.isSome = true ∧ (fn.name == "runtime.NumGoroutine") = false
  eqt : ∀ t ks, L.eqt.lookup t = some ks → ∀ (xs ys : List V) (us vs : List Value) (b : Bool) (w : World), eqCells xs ys = some b → xs.map litK = ks → ys.map litK = ks → us.length = xs.length → vs.length = ys.length →
    (∀ (i : Nat) (x : V) (u : Value), xs[i]? = some x → us[i]? = some u → x = .lit u) → (∀ (i : Nat) (x : V) (u : Value), ys[i]? = some x → vs[i]? = some u → x = .lit u) →
    (Op.equal t (.agg us.toArray) (.agg vs.toArray)).run P w = .ok b w ∧ P.eqGuardType P.depth t = false
  its : ∀ g it, L.its.lookup g = some it → ∀ (cs : List V) (vs : List Value) (mu : Mem) (w : World), cs.length = it.2 → RepV mu (.agg cs) (.agg vs.toArray) → (∀ b o v, mu b o = some v → w.cell? ⟨b, o, none⟩ = some v) →
    (callFunc g #[.agg vs.toArray]).run P w = .ok (.enter g #[.agg vs.toArray]) w ∧ Calls P g #[.agg vs.toArray] w fun e w' => ∃ (b : Nat) (mu' : Mem), Base w.heap.size [] w w' ∧ (∀ b o v, mu b o = some v → mu' b o = some v) ∧
      (∀ b o v, mu' b o = some v → mu b o = some v ∨ w.heap.size ≤ b) ∧ (∀ b o v, mu' b o = some v → w'.cell? ⟨b, o, none⟩ = some v) ∧
      e = .returned (.func (.func it.1) #[] #[.pointer (some ⟨b, 0, none⟩)]) ∧ RepCs (inMem mu') mu' cs ⟨b, 0, none⟩
  jn : ∀ f, L.jn.contains f = true → ∀ (a : Option Addr) (n : Nat) (xs : List ByteArray) (sep : ByteArray) (w : World), (a = none → xs = []) → (∀ ad, a = some ad → xs ≠ [] → ad.spot = none) →
    (∀ (ad : Addr) (j : Nat) (x : ByteArray), a = some ad → xs[j]? = some x → w.cell? ⟨ad.block, ad.off + j, none⟩ = some (.string x)) → xs.length ≤ n → xs.length ≤ 140737488355328 → (joinB xs sep).length ≤ 140737488355328 →
    (callFunc f #[.slice a xs.length n, .string sep]).run P w = .ok (.enter f #[.slice a xs.length n, .string sep]) w ∧ Calls P f #[.slice a xs.length n, .string sep] w fun e w' => Base w.heap.size [] w w' ∧ e = .returned (.string ⟨(joinB xs sep).toArray⟩)
  xb : ∀ f, L.xb.contains f = true → ∀ (s : ByteArray) (x : Int) (w : World), (callFunc f #[.string s, .int .u8 x]).run P w = .ok (.value (.int .i64 (firstIdx s x.toNat.toUInt8))) w

section
variable {P : Program} {L : Lite} {c : Ctx} {G : Gh} {ρ : St} {a : Act} {w : World}

theorem opd_rep (h : Inv c G ρ a w) (x : Operand) : RepX G ρ.ob (ρ.opd x) (a.eval x) := by
  cases x with
  | tmp t => exact h.slots t
  | const v =>
    show RepX G ρ.ob (if isNilSl v then .nil 0 else if scal v then .v (.lit v) else .undef) v
    split
    · rename_i hn
      unfold isNilSl at hn
      split at hn
      · exact .nil 0
      · cases hn
    · split
      · rename_i hs; exact .v (.lit v hs)
      · exact .undef _
  | global g => exact .undef _
  | func f => exact .clo (cvs := []) rfl (fun i c u h => by simp at h)

/-- A run of a computation of one value, as the evaluator says. -/
def DoneV (P : Program) (c : Ctx) (G : Gh) (ρ : St) (a : Act) (s : Sem Value) (w : World) (x : X) (H' : Nat → Ob) : Prop :=
  ∃ v w' G', s.run P w = .ok v w' ∧ G'.lam = G.lam ∧ Inv c G' { ρ with ob := H' } a w' ∧ RepX G' H' x v

theorem DoneV.same (h : Inv c G ρ a w) {s : Sem Value} {v : Value} {x : X} (hs : s.run P w = .ok v w) (hx : RepX G ρ.ob x v) : DoneV P c G ρ a s w x ρ.ob :=
  ⟨v, w, G, hs, rfl, h, hx⟩

theorem retype_rep {H : Nat → Ob} {t : TypeId} {x : X} {u : Value} (h : RepX G H x u) : RepX G H (retype L t x) u := by
  unfold retype
  split
  · cases h
    split <;> exact .nil _
  · exact h

theorem xv_rep {H : Nat → Ob} {x : X} {y : V} {u : Value} (h : RepX G H x u) (hx : xv x = some y) : RepV G.mu y u := by
  unfold xv at hx
  split at hx
  · cases hx; cases h; assumption
  · cases hx; cases h
    exact RepSl.toV ⟨none, 0, rfl, fun e he => by simp at he, fun e he => by simp at he, Nat.le_refl _, fun _ => ⟨rfl, rfl⟩, (fun ad h => by cases h), (fun ad i e j c h => by cases h)⟩
  · cases hx

theorem xvs_get : ∀ {xs : List X} {ys : List V}, xvs xs = some ys → xs.length = ys.length ∧ ∀ (j : Nat) (y : V), ys[j]? = some y → ∃ x, xs[j]? = some x ∧ xv x = some y
  | [], ys, h => by
    simp only [xvs, Option.some.injEq] at h; subst h
    exact ⟨rfl, fun j y h => by simp at h⟩
  | x :: r, ys, h => by
    unfold xvs at h
    split at h
    · rename_i y ys' h1 h2
      cases h
      obtain ⟨hl, hg⟩ := xvs_get h2
      refine ⟨by simp [hl], fun j y' hj => ?_⟩
      cases j with
      | zero => simp at hj; subst hj; exact ⟨x, rfl, h1⟩
      | succ j => simp at hj; obtain ⟨x', h3, h4⟩ := hg j y' hj; exact ⟨x', by simpa using h3, h4⟩
    · cases h

theorem run_underlying' {t : TypeId} (f : Fact P L t) (w : World) : (underlying t).run P w = .ok (L.ti t).und w := run_underlying f.und w

theorem run_typeInfo {t : TypeId} {i : TypeInfo} (h : P.info? t = some i) (w : World) : (typeInfo t).run P w = .ok i w := by
  simp [typeInfo, h]

theorem run_sizeOf' {t : TypeId} (f : Fact P L t) (w : World) : (sizeOf t).run P w = .ok (L.ti t).size w := by
  obtain ⟨i, h1, h2, _⟩ := f.info
  simp [sizeOf, run_typeInfo h1, h2]

theorem run_isAgg' {t : TypeId} (f : Fact P L t) (w : World) : (isAgg t).run P w = .ok (decide ((L.ti t).kd = 2)) w := by
  have := f.kd
  simp only [isAgg, Sem.run_bind, run_underlying' f, Result.andThen_ok]
  cases h : (L.ti t).und <;> simp [h] at this <;> simp [this]

theorem kd_fact (ok : LiteOk P L) {t : TypeId} (h : (L.ti t).kd ≠ 0) : Fact P L t :=
  ok.fact t fun e => h (ok.kd t e)

theorem run_loadVar_one {t : TypeId} (f : Fact P L t) (hk : (L.ti t).kd = 1) {ad : Addr} {v : Value} (hc : w.cell? ad = some v) : (loadVar t ad).run P w = .ok v w := by
  simp only [loadVar, Sem.run_bind, run_isAgg' f, Result.andThen_ok, hk]
  simp [run_load, hc]

theorem run_loadVar_many {t : TypeId} (f : Fact P L t) (hk : (L.ti t).kd = 2) {ad : Addr} {vs : List Value} (hl : vs.length = (L.ti t).size)
    (hc : ∀ j v, vs[j]? = some v → w.cell? (ad.add j) = some v) : (loadVar t ad).run P w = .ok (.agg vs.toArray) w := by
  have := run_loadCells_list (P := P) w ad vs hc
  simp only [loadVar, Sem.run_bind, run_isAgg' f, Result.andThen_ok, hk, decide_true, if_true, run_sizeOf' f, ← hl, this, Sem.run_pure]

theorem add_block (b o j : Nat) : (⟨b, o, none⟩ : Addr).add j = ⟨b, o + j, none⟩ := by
  unfold Addr.add; split <;> simp_all

theorem add_none {ad : Addr} (h : ad.spot = none) (j : Nat) : ad.add j = ⟨ad.block, ad.off + j, none⟩ := by
  obtain ⟨b, o, s⟩ := ad
  simp only at h; subst h; exact add_block b o j

/-- Values of cells, one for each. -/
theorem choose_list {α : Type} (p : Nat → α → Value → Prop) : ∀ (xs : List α) (k : Nat), (∀ (j : Nat) (x : α), xs[j]? = some x → ∃ u, p (k + j) x u) →
    ∃ vs : List Value, vs.length = xs.length ∧ ∀ (j : Nat) (x : α) (u : Value), xs[j]? = some x → vs[j]? = some u → p (k + j) x u
  | [], k, _ => ⟨[], rfl, fun j x u h => by simp at h⟩
  | x :: r, k, h => by
    obtain ⟨u, hu⟩ := h 0 x rfl
    obtain ⟨vs, hl, hv⟩ := choose_list p r (k + 1) (fun j x hj => by
      have := h (j + 1) x (by simpa using hj)
      rwa [show k + (j + 1) = k + 1 + j by omega] at this)
    refine ⟨u :: vs, by simp [hl], fun j y v hj hv' => ?_⟩
    cases j with
    | zero => simp at hj hv'; subst hj; subst hv'; exact hu
    | succ j =>
      simp at hj hv'
      have := hv j y v hj hv'
      rwa [show k + 1 + j = k + (j + 1) by omega] at this

/-- Cells of data that lie one behind the other, read as a struct or one by one. -/
theorem sound_loadV {H H' : Nat → Ob} (ok : LiteOk P L) (h : Inv c G { ρ with ob := H } a w) {t : TypeId} {cs : List V} {off : Nat} {x : X} (hgo : (loadV L t cs off).go H (.val x) H') {ad : Addr}
    (hf : ∀ y ∈ cs, y.flat = true) (hc : ∀ (j : Nat) (y : V), cs[j]? = some y → ∃ u, w.cell? (ad.add j) = some u ∧ RepV G.mu y u) (hs : ad.spot = none) :
    H = H' ∧ ∃ v, (loadVar t (ad.add off)).run P w = .ok v w ∧ RepX G H x v := by
  unfold loadV at hgo
  split at hgo
  · rename_i hk
    have f := kd_fact ok (t := t) (by omega)
    split at hgo
    · rename_i hle
      obtain ⟨e, rfl⟩ := go_ret hgo
      cases e
      have hlen : ((cs.drop off).take (L.ti t).size).length = (L.ti t).size := by simp; omega
      obtain ⟨vs, hl, hv⟩ := choose_list (fun j y u => w.cell? ((ad.add off).add j) = some u ∧ RepV G.mu y u) ((cs.drop off).take (L.ti t).size) 0 (fun j y hj => by
        have hlt : j < (L.ti t).size := by have := (List.getElem?_eq_some_iff.1 hj).1; omega
        rw [List.getElem?_take_of_lt hlt, List.getElem?_drop] at hj
        obtain ⟨u, hu, hr⟩ := hc _ y hj
        refine ⟨u, ?_, hr⟩
        rw [Nat.zero_add, add_none hs, add_block, ← hu, add_none hs, Nat.add_assoc])
      rw [hlen] at hl
      refine ⟨rfl, .agg vs.toArray, run_loadVar_many f hk hl (fun j v hj => ?_), .v (.agg (fun y hy => hf y (List.mem_of_mem_drop (List.mem_of_mem_take hy))) (by omega) fun i y u hi hu => (hv i y u hi hu).2)⟩
      have hjl : j < ((cs.drop off).take (L.ti t).size).length := by have := (List.getElem?_eq_some_iff.1 hj).1; omega
      have := (hv j _ v (List.getElem?_eq_getElem hjl) hj).1
      rwa [Nat.zero_add] at this
    · exact (go_fail hgo).elim
  · split at hgo
    · rename_i hk
      have f := kd_fact ok (t := t) (by omega)
      obtain ⟨y, hy, hgo⟩ := go_ov hgo
      obtain ⟨e, rfl⟩ := go_ret hgo
      cases e
      obtain ⟨u, hu, hr⟩ := hc off y hy
      exact ⟨rfl, u, run_loadVar_one f hk hu, .v hr⟩
    · exact (go_fail hgo).elim

theorem sound_loadC {H H' : Nat → Ob} (ok : LiteOk P L) (h : Inv c G { ρ with ob := H } a w) {t : TypeId} {s g : Nat} {cs : List X} (hs : H s = .box g cs) {b : Nat} (hb : G.m s = some b) {off : Nat} {x : X}
    (hgo : (loadC L t cs off).go H (.val x) H') : H = H' ∧ ∃ v, (loadVar t ⟨b, off, none⟩).run P w = .ok v w ∧ RepX G H x v := by
  obtain ⟨b', hb', hlt, hcf, hfz, hcs⟩ : RepOb G H w s (.box g cs) := by have := h.objs s; rwa [show (({ ρ with ob := H } : St).ob s) = H s from rfl, hs] at this
  rw [hb] at hb'; cases hb'
  unfold loadC at hgo
  split at hgo
  · rename_i hk
    have f := kd_fact ok (t := t) (by omega)
    split at hgo
    · rename_i hle
      obtain ⟨ys, hys, hgo⟩ := go_ov hgo
      obtain ⟨e, rfl⟩ := go_ret hgo
      cases e
      obtain ⟨hyl, hyg⟩ := xvs_get hys
      have hlen : ys.length = (L.ti t).size := by rw [← hyl]; simp; omega
      obtain ⟨vs, hl, hv⟩ := choose_list (fun j y u => w.cell? ⟨b, off + j, none⟩ = some u ∧ RepV G.mu y u ∧ y.flat = true) ys 0 (fun j y hj => by
        obtain ⟨x, hx, hxy⟩ := hyg j y hj
        have hlt : j < (L.ti t).size := by have := (List.getElem?_eq_some_iff.1 hj).1; omega
        rw [List.getElem?_take_of_lt hlt, List.getElem?_drop] at hx
        obtain ⟨u, hu, hr⟩ := hcs _ x hx
        refine ⟨u, by rw [Nat.zero_add]; exact hu, xv_rep hr hxy, ?_⟩
        have hcx := hcf x (List.mem_of_getElem? hx)
        unfold xv at hxy
        split at hxy
        · cases hxy
          cases y with
          | agg cs => simp [cellX] at hcx
          | _ => rfl
        · cases hxy; rfl
        · cases hxy)
      refine ⟨rfl, .agg vs.toArray, run_loadVar_many f hk (by omega) (fun j v hj => ?_), .v (.agg (fun y hy => ?_) (by omega) fun i y u hi hu => (hv i y u hi hu).2.1)⟩
      · have hjl : j < ys.length := by have := (List.getElem?_eq_some_iff.1 hj).1; omega
        have := (hv j _ v (List.getElem?_eq_getElem hjl) hj).1
        rw [add_block]; rwa [Nat.zero_add] at this
      · obtain ⟨j, hj⟩ := List.mem_iff_getElem?.1 hy
        have hjl : j < vs.length := by have := (List.getElem?_eq_some_iff.1 hj).1; omega
        exact (hv j y _ hj (List.getElem?_eq_getElem hjl)).2.2
    · exact (go_fail hgo).elim
  · split at hgo
    · rename_i hk
      have f := kd_fact ok (t := t) (by omega)
      obtain ⟨y, hy, hgo⟩ := go_ov hgo
      obtain ⟨e, rfl⟩ := go_ret hgo
      cases e
      obtain ⟨u, hu, hr⟩ := hcs off x hy
      exact ⟨rfl, u, run_loadVar_one f hk hu, hr⟩
    · exact (go_fail hgo).elim

theorem nu_cell (h : Inv c G ρ a w) {b o : Nat} {u : Value} (hn : G.nu b o u) : w.cell? ⟨b, o, none⟩ = some u := by
  rcases hn with hn | hn
  · exact h.hmu _ _ _ hn
  · exact h.hlam _ _ _ hn

theorem sound_load (ok : LiteOk P L) (h : Inv c G ρ a w) {t : TypeId} {x y : X} {u : Value} {H' : Nat → Ob} (hx : RepX G ρ.ob x u) (hgo : (actLoad L t x).go ρ.ob (.val y) H') :
    DoneV P c G ρ a (Instr.loadAt t u) w y H' := by
  unfold actLoad at hgo
  split at hgo
  · rename_i s g off
    cases hx with
    | @addr _ _ _ ad hg hh =>
      replace hgo := go_get hgo
      split at hgo
      · rename_i g' cs hs
        split at hgo
        · rename_i e; subst e
          obtain ⟨b, hb, rfl⟩ := hh cs hs
          obtain ⟨rfl, v, hv, hr⟩ := sound_loadC ok h hs hb hgo
          exact .same h (by simp [Instr.loadAt, Instr.sureAddr, hv]) hr
        · exact (go_fail hgo).elim
      · exact (go_fail hgo).elim
  · rename_i s g i off
    cases hx with
    | @elt _ _ _ _ ad hg hh =>
      replace hgo := go_get hgo
      split at hgo
      · rename_i g' mt z es hs
        split at hgo
        · rename_i e; subst e
          split at hgo
          · rename_i e hi
            obtain ⟨b, hb, rfl⟩ := hh mt z es hs
            obtain ⟨b', hb', hlt, hz, hff, hc, hfz, hcs⟩ : RepOb G ρ.ob w s (.row g mt z es) := by have := h.objs s; rwa [hs] at this
            rw [hb] at hb'; cases hb'
            obtain ⟨rfl, v, hv, hr⟩ := sound_loadV (ρ := ρ) (ad := ⟨b, i * z, none⟩) ok h hgo (fun y2 hy => hff e (List.mem_of_getElem? hi) y2 hy)
              (fun j y2 hj => by obtain ⟨u, hu, hr, _⟩ := hcs i e j y2 hi hj; exact ⟨u, by rw [add_block]; exact hu, hr⟩) rfl
            rw [add_block] at hv
            exact .same h (by simp [Instr.loadAt, Instr.sureAddr, hv]) hr
          · exact (go_fail hgo).elim
        · exact (go_fail hgo).elim
      · exact (go_fail hgo).elim
  · rename_i cs
    cases hx with
    | @ro _ ad hf hs hh =>
      cases hcs : cs with
      | nil =>
        subst hcs
        unfold loadV at hgo
        split at hgo
        · rename_i hk
          split at hgo
          · rename_i hle
            obtain ⟨e, rfl⟩ := go_ret hgo
            cases e
            have f := kd_fact ok (t := t) (by omega)
            simp at hle
            refine .same h (v := .agg #[]) ?_ (.v (.agg (vs := []) (by simp) (by simp) (by simp)))
            simp only [Instr.loadAt, Instr.sureAddr, Sem.run_bind, Sem.run_pure, Result.andThen_ok]
            exact run_loadVar_many (vs := []) f hk (by simp [hle]) (fun j v hj => by simp at hj)
          · exact (go_fail hgo).elim
        · split at hgo
          · obtain ⟨y2, hy, hgo⟩ := go_ov hgo
            simp at hy
          · exact (go_fail hgo).elim
      | cons y0 r =>
        have hsp : ad.spot = none := hs (by rw [hcs]; simp)
        obtain ⟨rfl, v, hv, hr⟩ := sound_loadV (ρ := ρ) (ad := ad) ok h hgo hf (fun j y hj => by
          obtain ⟨u, hu, hr⟩ := hh j y hj
          exact ⟨u, by rw [add_none hsp]; exact nu_cell h hu, hr⟩) hsp
        have : ad.add 0 = ad := by simp [Addr.add]
        rw [this] at hv
        exact .same h (by simp [Instr.loadAt, Instr.sureAddr, hv]) hr
  · exact (go_fail hgo).elim

end
end Go.Dv

namespace Go.Dv
open Go

section
variable {P : Program} {L : Lite} {c : Ctx} {G : Gh} {ρ : St} {a : Act} {w : World}

theorem lit_int {H : Nat → Ob} {k : IntKind} {n : Int} {u : Value} (h : RepX G H (.v (.lit (.int k n))) u) : u = .int k n := by
  cases h with | v h => cases h; rfl
theorem lit_val {H : Nat → Ob} {v u : Value} (h : RepX G H (.v (.lit v)) u) : u = v ∧ scal v = true := by
  cases h with | v h => cases h with | lit _ hv => exact ⟨rfl, hv⟩
theorem rep_lit {H : Nat → Ob} {v : Value} (h : scal v = true) : RepX G H (.v (.lit v)) v := .v (.lit v h)

theorem one_of_flat {mu : Mem} {y : V} {u : Value} (h : RepV mu y u) (hf : y.flat = true) : u.oneCell' = true := by
  cases h with
  | lit _ hv => cases u <;> first | rfl | (simp [scal] at hv)
  | sl => rfl
  | agg => simp [V.flat] at hf

theorem one_of_cell {H : Nat → Ob} {y : X} {u : Value} (h : RepX G H y u) (hf : cellX y = true) : u.oneCell' = true := by
  cases h with
  | v h => exact one_of_flat h (by cases ‹V› <;> first | rfl | (simp [cellX] at hf))
  | undef => simp [cellX] at hf
  | tup => simp [cellX] at hf
  | ro => simp [cellX] at hf
  | lent h => simp [cellX] at hf
  | _ => rfl

theorem cells_of_one {u : Value} (h : u.oneCell' = true) : u.cells = #[u] := by
  cases u <;> first | rfl | (simp [Value.oneCell'] at h)

theorem cellsX_rep {H : Nat → Ob} {t : TypeId} {x : X} {u : Value} {ys : List X} (hx : RepX G H x u) (hc : cellsX L t x = some ys) :
    u.cells.size = (L.ti t).size ∧ (L.ti t).kd ≠ 0 ∧ ys.length = u.cells.toList.length ∧ (∀ y ∈ ys, cellX y = true) ∧ (∀ v ∈ u.cells.toList, v.oneCell' = true) ∧
      ∀ (j : Nat) (y : X) (v : Value), ys[j]? = some y → u.cells.toList[j]? = some v → RepX G H y v := by
  unfold cellsX at hc
  split at hc
  · rename_i hk
    split at hc
    · rename_i cs
      split at hc
      · rename_i hl
        cases hc
        cases hx with
        | v h =>
          cases h with
          | @agg _ vs hf hlen hr =>
            refine ⟨by simp [Value.cells]; omega, by omega, by simp [Value.cells, hlen], fun y hy => ?_, fun v hv => ?_, fun j y v hj hv => ?_⟩
            · obtain ⟨y', hy', rfl⟩ := List.mem_map.1 hy
              have := hf y' hy'
              cases y' <;> first | rfl | (simp [V.flat] at this)
            · simp only [Value.cells] at hv
              obtain ⟨j, hj⟩ := List.mem_iff_getElem?.1 hv
              have hjl : j < cs.length := by have := (List.getElem?_eq_some_iff.1 hj).1; omega
              exact one_of_flat (hr j _ v (List.getElem?_eq_getElem hjl) hj) (hf _ (List.getElem_mem hjl))
            · simp only [Value.cells] at hv
              rw [List.getElem?_map] at hj
              cases hy : cs[j]? with
              | none => simp [hy] at hj
              | some y' => simp [hy] at hj; subst hj; exact .v (hr j y' v hy hv)
      · cases hc
    · cases hc
  · split at hc
    · rename_i hk
      split at hc
      · rename_i hcx
        cases hc
        have h1 := one_of_cell hx hcx
        have h2 := cells_of_one h1
        refine ⟨by rw [h2]; simp [hk.2], by omega, by rw [h2]; rfl, fun y hy => by simp at hy; subst hy; exact hcx, fun v hv => by rw [h2] at hv; simp at hv; subst hv; exact h1, fun j y v hj hv => ?_⟩
        rw [h2] at hv
        cases j with
        | zero => simp at hj hv; subst hj; subst hv; exact hx
        | succ j => simp at hj
      · cases hc
    · cases hc

theorem cellsV_rep {t : TypeId} {x : V} {u : Value} {ys : List V} (hx : RepV G.mu x u) (hc : cellsV L t x = some ys) :
    u.cells.size = (L.ti t).size ∧ (L.ti t).kd ≠ 0 ∧ ys.length = u.cells.toList.length ∧ (∀ y ∈ ys, y.flat = true) ∧ (∀ v ∈ u.cells.toList, v.oneCell' = true) ∧
      ∀ (j : Nat) (y : V) (v : Value), ys[j]? = some y → u.cells.toList[j]? = some v → RepV G.mu y v := by
  unfold cellsV at hc
  split at hc
  · rename_i hk
    split at hc
    · rename_i cs
      split at hc
      · rename_i hl
        cases hc
        cases hx with
        | @agg _ vs hf hlen hr =>
          refine ⟨by simp [Value.cells]; omega, by omega, by simp [Value.cells, hlen], hf, fun v hv => ?_, fun j y v hj hv => hr j y v hj hv⟩
          simp only [Value.cells] at hv
          obtain ⟨j, hj⟩ := List.mem_iff_getElem?.1 hv
          have hjl : j < ys.length := by have := (List.getElem?_eq_some_iff.1 hj).1; omega
          exact one_of_flat (hr j _ v (List.getElem?_eq_getElem hjl) hj) (hf _ (List.getElem_mem hjl))
      · cases hc
    · cases hc
  · split at hc
    · rename_i hk
      split at hc
      · rename_i hcx
        cases hc
        have h1 := one_of_flat hx hcx
        have h2 := cells_of_one h1
        refine ⟨by rw [h2]; simp [hk.2], by omega, by rw [h2]; rfl, fun y hy => by simp at hy; subst hy; exact hcx, fun v hv => by rw [h2] at hv; simp at hv; subst hv; exact h1, fun j y v hj hv => ?_⟩
        rw [h2] at hv
        cases j with
        | zero => simp at hj hv; subst hj; subst hv; exact hx
        | succ j => simp at hj
      · cases hc
    · cases hc

/-- A value that is kept. -/
theorem sound_frz {α : Type} (h : Inv c G ρ a w) {x : X} {u : Value} {k : V → Ef α} {o : α} {H' : Nat → Ob} (hx : RepX G ρ.ob x u) (hgo : (frz x k).go ρ.ob o H') :
    ∃ y G' H1, G'.lam = G.lam ∧ Inv c G' { ρ with ob := H1 } a w ∧ Later G ρ.ob G' H1 ∧ RepV G'.mu y u ∧ (k y).go H1 o H' := by
  unfold frz at hgo
  split at hgo
  · cases hx; exact ⟨_, G, ρ.ob, rfl, h, .refl _ _, ‹_›, hgo⟩
  · exact ⟨_, G, ρ.ob, rfl, h, .refl _ _, xv_rep hx rfl, hgo⟩
  · rename_i s g lo n
    replace hgo := go_get hgo
    split at hgo
    · rename_i g' mt z es hs
      split at hgo
      · rename_i e; subst e
        split at hgo
        · rename_i hmt; subst hmt
          replace hgo := go_put hgo
          obtain ⟨G', hl, hi, later⟩ := h.sealRow hs
          exact ⟨_, G', _, hl, hi, later, own_sealed (ρ := { ρ with ob := upd ρ.ob s (.row g false z es) }) hi (upd_same _ _ _) (hx.later later), hgo⟩
        · rename_i hmt
          have hmt' : mt = false := by cases mt <;> simp_all
          subst hmt'
          exact ⟨_, G, ρ.ob, rfl, h, .refl _ _, own_sealed h hs hx, hgo⟩
      · exact (go_fail hgo).elim
    · exact (go_fail hgo).elim
  · exact (go_fail hgo).elim

theorem sound_frzs {α : Type} : ∀ (xs : List X) (us : List Value) {G : Gh} {ρ : St} (h : Inv c G ρ a w) {k : List V → Ef α} {o : α} {H' : Nat → Ob} (hl : xs.length = us.length)
    (hx : ∀ (j : Nat) (x : X) (u : Value), xs[j]? = some x → us[j]? = some u → RepX G ρ.ob x u) (hgo : (frzs xs k).go ρ.ob o H'),
    ∃ ys G' H1, G'.lam = G.lam ∧ Inv c G' { ρ with ob := H1 } a w ∧ Later G ρ.ob G' H1 ∧ ys.length = us.length ∧ (∀ (j : Nat) (y : V) (u : Value), ys[j]? = some y → us[j]? = some u → RepV G'.mu y u) ∧ (k ys).go H1 o H'
  | [], us, G, ρ, h, k, o, H', hl, hx, hgo => by
    cases us with
    | nil => exact ⟨[], G, ρ.ob, rfl, h, .refl _ _, rfl, fun j y u hj => by simp at hj, hgo⟩
    | cons => simp at hl
  | x :: r, us, G, ρ, h, k, o, H', hl, hx, hgo => by
    cases us with
    | nil => simp at hl
    | cons u us =>
      obtain ⟨y, G1, H1, l1, i1, la1, r1, g1⟩ := sound_frz h (hx 0 x u rfl rfl) hgo
      obtain ⟨ys, G2, H2, l2, i2, la2, hl2, r2, g2⟩ := sound_frzs r us (ρ := { ρ with ob := H1 }) i1 (by simpa using hl)
        (fun j x' u' hj hu => (hx (j + 1) x' u' (by simpa using hj) (by simpa using hu)).later la1) g1
      refine ⟨y :: ys, G2, H2, l2.trans l1, i2, la1.trans la2, by simp [hl2], fun j y' u' hj hu => ?_, g2⟩
      cases j with
      | zero => simp at hj hu; subst hj; subst hu; exact r1.mono la2.mu
      | succ j => simp at hj hu; exact r2 j y' u' hj hu

/-- A slice that is read. -/
theorem sound_rdSl {α : Type} (h : Inv c G ρ a w) {x : X} {u : Value} {k : Nat → List (List V) → Ef α} {o : α} {H' : Nat → Ob} (hx : RepX G ρ.ob x u) (hgo : (rdSl x k).go ρ.ob o H') :
    ∃ z es, RepSl (fun b o v => w.cell? ⟨b, o, none⟩ = some v) G.mu z es u ∧ (k z es).go ρ.ob o H' := by
  unfold rdSl at hgo
  split at hgo
  · cases hx with
    | v hx => exact ⟨_, _, (hx.toSl).mono (fun b o v hv => h.hmu _ _ _ hv) (fun _ _ _ k => k), hgo⟩
  · cases hx
    exact ⟨_, _, ⟨none, 0, rfl, fun e he => by simp at he, fun e he => by simp at he, Nat.le_refl _, fun _ => ⟨rfl, rfl⟩, (fun ad h => by cases h), (fun ad i e j c h => by cases h)⟩, hgo⟩
  · cases hx with
    | lent hx => exact ⟨_, _, hx.mono (fun b o v hv => nu_cell h hv) (fun _ _ _ k => k), hgo⟩
  · rename_i s g lo n
    replace hgo := go_get hgo
    split at hgo
    · rename_i g' mt z es hs
      split at hgo
      · rename_i e; subst e
        exact ⟨_, _, (own_reads h hs hx).mono (fun b o v hv => hv.1) (fun _ _ _ k => k), hgo⟩
      · exact (go_fail hgo).elim
    · exact (go_fail hgo).elim
  · exact (go_fail hgo).elim

/-- A run that answers nothing. -/
def DoneU (P : Program) (c : Ctx) (G : Gh) (ρ : St) (a : Act) (s : Sem Unit) (w : World) (H' : Nat → Ob) : Prop :=
  ∃ w' G', s.run P w = .ok () w' ∧ G'.lam = G.lam ∧ Inv c G' { ρ with ob := H' } a w'

theorem run_storeVar {t : TypeId} (f : Fact P L t) {b o : Nat} {v : Value} (hs : v.cells.size = (L.ti t).size) (h1 : ∀ x ∈ v.cells.toList, x.oneCell' = true)
    (hc : ∀ j, j < v.cells.toList.length → (w.cell? ⟨b, o + j, none⟩).isSome = true) (hf : ∀ j, j < v.cells.toList.length → w.frozen? ⟨b, o + j, none⟩ = false) :
    (storeVar t ⟨b, o, none⟩ v).run P w = .ok () (w.setCells b o v.cells.toList) := by
  have := run_storeCells_cells (P := P) b o v.cells.toList 0 w (by simpa using hc) (by simpa using hf) h1
  simp only [storeVar, Sem.run_bind, run_sizeOf' f, Result.andThen_ok, hs]
  simpa using this

theorem sound_store (ok : LiteOk P L) (h : Inv c G ρ a w) {t : TypeId} {ax x y : X} {au u : Value} {H' : Nat → Ob} (ha : RepX G ρ.ob ax au) (hx : RepX G ρ.ob x u)
    (hgo : (actStore L t ax x).go ρ.ob (.val y) H') : DoneU P c G ρ a (Instr.storeAt t au u) w H' ∧ y = .undef := by
  unfold actStore at hgo
  split at hgo
  · rename_i s g off
    cases ha with
    | @addr _ _ _ ad hg hh =>
      replace hgo := go_get hgo
      split at hgo
      · rename_i g' cs hs
        split at hgo
        · rename_i e; subst e
          obtain ⟨ys, hys, hgo⟩ := go_ov hgo
          split at hgo
          · rename_i hoff
            replace hgo := go_put hgo
            obtain ⟨e, rfl⟩ := go_ret hgo
            cases e
            obtain ⟨b, hb, rfl⟩ := hh cs hs
            obtain ⟨h1, h2, h3, h4, h5, h6⟩ := cellsX_rep (retype_rep hx) hys
            obtain ⟨b', hb', hlt, hcf, hfz, hcs⟩ : RepOb G ρ.ob w s (.box g cs) := by have := h.objs s; rwa [hs] at this
            rw [hb] at hb'; cases hb'
            refine ⟨⟨_, G, ?_, rfl, h.setBox hs hb off ys u.cells.toList hoff h3 h4 h6⟩, rfl⟩
            simp only [Instr.storeAt, Instr.sureAddr, Sem.run_bind, Sem.run_pure, Result.andThen_ok]
            refine run_storeVar (kd_fact ok h2) h1 h5 (fun j hj => ?_) (fun j hj => hfz _ (by omega))
            obtain ⟨u', hu', _⟩ := hcs (off + j) _ (List.getElem?_eq_getElem (by omega))
            rw [hu']; rfl
          · exact (go_fail hgo).elim
        · exact (go_fail hgo).elim
      · exact (go_fail hgo).elim
  · rename_i s g i off
    obtain ⟨yv, G1, H1, hl1, i1, la1, r1, hgo⟩ := sound_frz h (retype_rep (L := L) (t := t) hx) hgo
    replace ha := ha.later la1
    cases ha with
    | @elt _ _ _ _ ad hg hh =>
      replace hgo := go_get hgo
      split at hgo
      · rename_i g' z es hs
        split at hgo
        · rename_i e; subst e
          obtain ⟨ys, hys, hgo⟩ := go_ov hgo
          split at hgo
          · rename_i e hi
            split at hgo
            · rename_i hoff
              replace hgo := go_put hgo
              obtain ⟨e', rfl⟩ := go_ret hgo
              cases e'
              obtain ⟨b, hb, rfl⟩ := hh true z es hs
              obtain ⟨h1, h2, h3, h4, h5, h6⟩ := cellsV_rep r1 hys
              obtain ⟨b', hb', hlt, hz, hff, hc, hfz, hcs⟩ : RepOb G1 H1 w s (.row g true z es) := by have := i1.objs s; rwa [show (({ ρ with ob := H1 } : St).ob s) = H1 s from rfl, hs] at this
              rw [hb] at hb'; cases hb'
              refine ⟨⟨_, G1, ?_, hl1, Inv.setElt (ρ := { ρ with ob := H1 }) i1 hs hb i e hi off ys u.cells.toList hoff h3 h4 h6⟩, rfl⟩
              simp only [Instr.storeAt, Instr.sureAddr, Sem.run_bind, Sem.run_pure, Result.andThen_ok]
              obtain ⟨hil, hie⟩ := List.getElem?_eq_some_iff.1 hi
              have hez : e.length = z := hz e (by rw [← hie]; exact List.getElem_mem hil)
              have inr : ∀ j, j < u.cells.toList.length → i * z + off + j < G1.cap s * z := fun j hj => by
                have := place_lt (z := z) (i := i) (j := off + j) (n := G1.cap s) (by omega) (by omega); omega
              exact run_storeVar (kd_fact ok h2) h1 h5 (fun j hj => (hfz _ (inr j hj)).2) (fun j hj => (hfz _ (inr j hj)).1)
            · exact (go_fail hgo).elim
          · exact (go_fail hgo).elim
        · exact (go_fail hgo).elim
      · exact (go_fail hgo).elim
  · exact (go_fail hgo).elim

theorem go_makeGen {α : Type} {t : TypeId} {d : Option Nat} {k : Nat → Nat → Ef α} {o : α} {H H' : Nat → Ob} (h : (makeGen L t d k).go H o H') :
    ∃ s d', d = some d' ∧ s ≤ d' ∧ (k s ((H s).gen + 1)).go H o H' := by
  unfold makeGen at h
  split at h
  · unfold rotGen at h
    split at h
    · rename_i d'
      replace h := go_get (go_get (go_get h))
      split at h
      · exact ⟨_, _, rfl, Nat.le_refl _, h⟩
      · split at h
        · exact ⟨_, _, rfl, by omega, h⟩
        · exact ⟨_, _, rfl, by omega, h⟩
    · exact (go_fail h).elim
  · unfold nextGen at h
    split at h
    · exact ⟨_, _, rfl, Nat.le_refl _, go_get h⟩
    · exact (go_fail h).elim

theorem go_nextGen {α : Type} {d : Option Nat} {k : Nat → Nat → Ef α} {o : α} {H H' : Nat → Ob} (h : (nextGen d k).go H o H') : ∃ s, d = some s ∧ (k s ((H s).gen + 1)).go H o H' := by
  unfold nextGen at h
  split at h
  · exact ⟨_, rfl, go_get h⟩
  · exact (go_fail h).elim

theorem sound_alloc (ok : LiteOk P L) (h : Inv c G ρ a w) {t : TypeId} {d : Option Nat} (hdn : ∀ s, d = some s → s < ρ.n) {y : X} {H' : Nat → Ob}
    (hgo : (ov (L.ti t).zero fun zx => nextGen d fun d g => .put d (.box g zx) (Dv.ok (.addr d g 0))).go ρ.ob (.val y) H') :
    DoneV P c G ρ a (Instr.alloc t true (.tuple #[])) w y H' := by
  obtain ⟨zx, hzx, hgo⟩ := go_ov hgo
  obtain ⟨s, hd, hgo2⟩ := go_nextGen hgo
  replace hgo := go_put hgo2
  clear hgo2
  obtain ⟨e, rfl⟩ := go_ret hgo
  cases e
  have f : Fact P L t := ok.fact t fun e => by rw [ok.nozero t e] at hzx; cases hzx
  obtain ⟨i, h1, h2, h3, h4⟩ := f.info
  obtain ⟨v, hv, ⟨hzl, hz⟩, hsz⟩ := h4 zx hzx
  obtain ⟨i1, r1⟩ := h.newBox s (hdn s hd) zx v.cells.toList t hzl (fun x hx => by
    obtain ⟨j, hj⟩ := List.mem_iff_getElem?.1 hx
    have hjl : j < v.cells.toList.length := by have := (List.getElem?_eq_some_iff.1 hj).1; omega
    rcases hz j x _ hj (List.getElem?_eq_getElem hjl) with ⟨z, rfl, _⟩ | ⟨rfl, _⟩ <;> rfl) (fun j x u hj hu => by
    rcases hz j x u hj hu with ⟨z, rfl, rfl⟩ | ⟨rfl, hs⟩
    · exact .nil z
    · exact .v (.lit u hs))
  refine ⟨_, _, G.at s w.heap.size 0, ?_, rfl, i1, r1⟩
  simp [Instr.alloc, zeroValue, run_typeInfo h1, hv, newVar, newRow]

theorem sound_box (h : Inv c G ρ a w) {t : TypeId} {d : Option Nat} (hdn : ∀ s, d = some s → s < ρ.n) {x y : X} {u : Value} {H' : Nat → Ob} (hx : RepX G ρ.ob x u)
    (hgo : (ov (cellsX L t (retype L t x)) fun cs => nextGen d fun d g => .put d (.box g cs) (Dv.ok (.addr d g 0))).go ρ.ob (.val y) H') :
    DoneV P c G ρ a (Instr.box t u) w y H' := by
  obtain ⟨ys, hys, hgo⟩ := go_ov hgo
  obtain ⟨s, hd, hgo2⟩ := go_nextGen hgo
  replace hgo := go_put hgo2
  clear hgo2
  obtain ⟨e, rfl⟩ := go_ret hgo
  cases e
  obtain ⟨h1, h2, h3, h4, h5, h6⟩ := cellsX_rep (retype_rep hx) hys
  obtain ⟨i1, r1⟩ := h.newBox s (hdn s hd) ys u.cells.toList t h3 h4 h6
  refine ⟨_, _, G.at s w.heap.size 0, ?_, rfl, i1, r1⟩
  simp [Instr.box, newVar, newRow]

theorem run_fieldAt (ok : LiteOk P L) {t : TypeId} {fs : Array Field} {f : Nat} {fd : Field} (hu : (L.ti t).und = .struct fs) (hf : fs[f]? = some fd) (hz : (L.ti fd.type).size ≠ 0) (ad : Addr) :
    (Instr.fieldAt t (.pointer (some ad)) f).run P w = .ok (.pointer (some (ad.add fd.offset))) w := by
  have ft := ok.fact t (by rw [hu]; exact fun e => by cases e)
  have ff := ok.fact fd.type (ok.struct t fs f fd hu hf)
  simp only [Instr.fieldAt, Sem.run_bind, run_underlying' ft, Result.andThen_ok, hu, hf, Instr.sureAddr, Sem.run_pure, fieldPlace, run_sizeOf' ff]
  simp [hz]

theorem sound_shift {H H' : Nat → Ob} {x y : X} {n : Nat} {ad : Addr} (hx : RepX G H x (.pointer (some ad))) (hgo : (shift x n).go H (.val y) H') : H = H' ∧ RepX G H y (.pointer (some (ad.add n))) := by
  unfold shift at hgo
  split at hgo
  · obtain ⟨e, rfl⟩ := go_ret hgo
    cases e
    cases hx with
    | addr hg hh =>
      refine ⟨rfl, .addr hg fun cs hs => ?_⟩
      obtain ⟨b, hb, rfl⟩ := hh cs hs
      exact ⟨b, hb, add_block _ _ _⟩
  · obtain ⟨e, rfl⟩ := go_ret hgo
    cases e
    cases hx with
    | elt hg hh =>
      refine ⟨rfl, .elt hg fun mt z es hs => ?_⟩
      obtain ⟨b, hb, rfl⟩ := hh mt z es hs
      exact ⟨b, hb, by rw [add_block, Nat.add_assoc]⟩
  · rename_i cs
    obtain ⟨e, rfl⟩ := go_ret hgo
    cases e
    cases hx with
    | ro hf hs hh =>
      refine ⟨rfl, .ro (fun y hy => hf y (List.mem_of_mem_drop hy)) (fun hne => ?_) (fun j y hj => ?_)⟩
      · have : cs ≠ [] := fun e => by subst e; simp at hne
        rw [add_none (hs this)]
      · have : cs ≠ [] := fun e => by subst e; simp at hj
        rw [List.getElem?_drop] at hj
        obtain ⟨u, hu, hr⟩ := hh _ y hj
        refine ⟨u, ?_, hr⟩
        rw [add_none (hs this)]
        show G.nu ad.block (ad.off + n + j) u
        rw [Nat.add_assoc]; exact hu
  · exact (go_fail hgo).elim

theorem shift_ptr {H H' : Nat → Ob} {x : X} {oc : Outc} {u : Value} {n : Nat} (hx : RepX G H x u) (hgo : (shift x n).go H oc H') : ∃ ad, u = .pointer (some ad) := by
  unfold shift at hgo
  split at hgo
  · cases hx; exact ⟨_, rfl⟩
  · cases hx; exact ⟨_, rfl⟩
  · cases hx; exact ⟨_, rfl⟩
  · exact (go_fail hgo).elim

theorem sound_fieldAddr (ok : LiteOk P L) (h : Inv c G ρ a w) {t : TypeId} {x y : X} {f : Nat} {u : Value} {H' : Nat → Ob} (hx : RepX G ρ.ob x u) (hgo : (actFieldAddr L t x f).go ρ.ob (.val y) H') :
    DoneV P c G ρ a (Instr.fieldAt t u f) w y H' := by
  unfold actFieldAddr at hgo
  split at hgo
  · rename_i fs hu
    split at hgo
    · rename_i fd hf
      split at hgo
      · exact (go_fail hgo).elim
      · rename_i hz
        obtain ⟨ad, rfl⟩ := shift_ptr hx hgo
        obtain ⟨rfl, hr⟩ := sound_shift hx hgo
        exact .same h (run_fieldAt ok hu hf hz ad) hr
    · exact (go_fail hgo).elim
  · exact (go_fail hgo).elim

/-- An element's cells. -/
theorem elem_ro {nu : Nat → Nat → Value → Prop} {mu : Mem} {z : Nat} {es : List (List V)} {cap : Nat} {base : Addr} {i : Nat} {e : List V} (h : RepSl nu mu z es (.slice (some base) es.length cap)) (hi : es[i]? = some e) :
    (∀ y ∈ e, y.flat = true) ∧ (base.add (i * z)).spot = none ∧ RepCs nu mu e (base.add (i * z)) := by
  obtain ⟨a, cap', he, hz, hf, hc, hn, hs, hm⟩ := h
  cases he
  have hne : es ≠ [] := fun k => by subst k; simp at hi
  have hsp := hs base rfl hne
  refine ⟨hf e (List.mem_of_getElem? hi), by rw [add_none hsp], fun j y hj => ?_⟩
  obtain ⟨u, hu, hr⟩ := hm base i e j y rfl hi hj
  exact ⟨u, by rw [add_none hsp]; exact hu, hr⟩

theorem run_indexAt_sl (ok : LiteOk P L) {t e : TypeId} (hu : (L.ti t).und = .slice e) {base : Addr} {n cap : Nat} {k : IntKind} {i : Int} (h0 : 0 ≤ i) (h1 : i < (n : Int)) :
    (Instr.indexAt t (.slice (some base) n cap) (.int k i)).run P w = .ok (.pointer (some (base.add (i.toNat * (L.ti e).size)))) w := by
  have ft := ok.fact t (by rw [hu]; exact fun e => by cases e)
  have fe := ok.fact e (ok.slice t e hu)
  simp only [Instr.indexAt, asIntOf, Sem.run_bind, Sem.run_pure, Result.andThen_ok, run_underlying' ft, hu]
  simp [h0, h1, run_sizeOf' fe]

theorem run_indexAt_arr (ok : LiteOk P L) {t e : TypeId} {len : Nat} (hu : (L.ti t).und = .array len e) {ad : Addr} {k : IntKind} {i : Int} (h0 : 0 ≤ i) (h1 : i < (len : Int)) :
    (Instr.indexAt t (.pointer (some ad)) (.int k i)).run P w = .ok (.pointer (some (ad.add (i.toNat * (L.ti e).size)))) w := by
  have ft := ok.fact t (by rw [hu]; exact fun e => by cases e)
  have fe := ok.fact e (ok.array t len e hu)
  simp only [Instr.indexAt, asIntOf, Sem.run_bind, Sem.run_pure, Result.andThen_ok, run_underlying' ft, hu]
  simp [h0, h1, run_sizeOf' fe, Instr.sureAddr]

theorem sound_indexAddr (ok : LiteOk P L) (h : Inv c G ρ a w) {t : TypeId} {x i y : X} {u v : Value} {H' : Nat → Ob} (hx : RepX G ρ.ob x u) (hi : RepX G ρ.ob i v) (hgo : (actIndexAddr L t x i).go ρ.ob (.val y) H') :
    DoneV P c G ρ a (Instr.indexAt t u v) w y H' := by
  obtain ⟨k, n, hie, hgo2⟩ := go_num hgo
  subst hie
  clear hgo
  have hgo := hgo2
  clear hgo2
  obtain rfl := lit_int hi
  split at hgo
  · rename_i e hu
    split at hgo
    · rename_i z es
      split at hgo
      · rename_i hz; subst hz
        split at hgo
        · rename_i hn
          obtain ⟨ev, hev, hgo⟩ := go_ov hgo
          obtain ⟨e', rfl⟩ := go_ret hgo
          cases e'
          cases hx with
          | v hx =>
            have hsl := hx.toSl
            obtain ⟨a', cap, rfl, _, _, _, hnn, _⟩ := hsl
            cases a' with
            | none => obtain ⟨_, rfl⟩ := hnn rfl; simp at hev
            | some base =>
              obtain ⟨h1, h2, h3⟩ := elem_ro hx.toSl hev
              have hlt := (List.getElem?_eq_some_iff.1 hev).1
              exact .same h (run_indexAt_sl ok hu hn (by omega)) (.ro h1 (fun _ => h2) (h3.mono (fun b o v hv => .inl hv) (fun _ _ _ k => k)))
        · exact (go_fail hgo).elim
      · exact (go_fail hgo).elim
    · rename_i z es
      split at hgo
      · rename_i hz; subst hz
        split at hgo
        · rename_i hn
          obtain ⟨ev, hev, hgo⟩ := go_ov hgo
          obtain ⟨e', rfl⟩ := go_ret hgo
          cases e'
          cases hx with
          | lent hx =>
            have hsl := hx
            obtain ⟨a', cap, rfl, _, _, _, hnn, _⟩ := hsl
            cases a' with
            | none => obtain ⟨_, rfl⟩ := hnn rfl; simp at hev
            | some base =>
              obtain ⟨h1, h2, h3⟩ := elem_ro hx hev
              have hlt := (List.getElem?_eq_some_iff.1 hev).1
              exact .same h (run_indexAt_sl ok hu hn (by omega)) (.ro h1 (fun _ => h2) h3)
        · exact (go_fail hgo).elim
      · exact (go_fail hgo).elim
    · rename_i s g lo m
      replace hgo := go_get hgo
      split at hgo
      · rename_i g' mt z es hs
        split at hgo
        · rename_i hz; obtain ⟨rfl, rfl⟩ := hz
          split at hgo
          · rename_i hn
            obtain ⟨e', rfl⟩ := go_ret hgo
            cases e'
            cases hx with
            | @own _ _ _ _ cap base hg hh =>
              refine .same h (run_indexAt_sl ok hu hn.1 hn.2) (.elt hg fun mt' z' es' hs' => ?_)
              obtain ⟨h1, h2, b, hb, h3, h4⟩ := hh mt' z' es' hs'
              have hz' : z' = (L.ti e).size := by rw [hs] at hs'; cases hs'; rfl
              obtain rfl := h3 (by omega)
              exact ⟨b, hb, by rw [add_block, hz', Nat.add_mul, Nat.add_zero]⟩
          · exact (go_fail hgo).elim
        · exact (go_fail hgo).elim
      · exact (go_fail hgo).elim
    · rename_i s g m
      split at hgo
      · rename_i hn
        obtain ⟨e', rfl⟩ := go_ret hgo
        cases e'
        cases hx with
        | @bsl _ _ _ cap base hg hh =>
          refine .same h (run_indexAt_sl ok hu hn.2.1 hn.2.2) (.addr hg fun cs hs => ?_)
          obtain ⟨b, hb, rfl⟩ := hh cs hs
          exact ⟨b, hb, by rw [add_block, hn.1, Nat.mul_one, Nat.zero_add]⟩
      · exact (go_fail hgo).elim
    · exact (go_fail hgo).elim
  · rename_i len e hu
    split at hgo
    · rename_i hn
      obtain ⟨ad, rfl⟩ := shift_ptr hx hgo
      obtain ⟨rfl, hr⟩ := sound_shift hx hgo
      exact .same h (run_indexAt_arr ok hu hn.1 hn.2) hr
    · exact (go_fail hgo).elim
  · exact (go_fail hgo).elim

end
end Go.Dv

namespace Go.Dv
open Go

section
variable {P : Program} {L : Lite} {c : Ctx} {G : Gh} {ρ : St} {a : Act} {w : World}

theorem sound_part {H H' : Nat → Ob} (ok : LiteOk P L) {t : TypeId} {cs : List V} {vs : List Value} {off : Nat} {x : X} (hgo : (loadV L t cs off).go H (.val x) H')
    (hf : ∀ y ∈ cs, y.flat = true) (hl : cs.length = vs.length) (hc : ∀ (j : Nat) (y : V) (u : Value), cs[j]? = some y → vs[j]? = some u → RepV G.mu y u) (w : World) :
    H = H' ∧ ∃ v, (part t vs.toArray off).run P w = .ok v w ∧ RepX G H x v := by
  unfold loadV at hgo
  split at hgo
  · rename_i hk
    have f := kd_fact ok (t := t) (by omega)
    split at hgo
    · rename_i hle
      obtain ⟨e, rfl⟩ := go_ret hgo
      cases e
      refine ⟨rfl, .agg (vs.toArray.extract off (off + (L.ti t).size)), ?_, ?_⟩
      · simp only [part, Sem.run_bind, run_isAgg' f, Result.andThen_ok, hk, decide_true, if_true, run_sizeOf' f, Sem.run_pure]
      · have : vs.toArray.extract off (off + (L.ti t).size) = ((vs.drop off).take (L.ti t).size).toArray := by
          apply Array.ext'
          simp [List.extract_eq_take_drop]
        rw [this]
        refine .v (.agg (fun y hy => hf y (List.mem_of_mem_drop (List.mem_of_mem_take hy))) (by simp [hl]) fun i y u hi hu => ?_)
        have hlt : i < (L.ti t).size := by have := (List.getElem?_eq_some_iff.1 hi).1; simp at this; omega
        rw [List.getElem?_take_of_lt hlt, List.getElem?_drop] at hi hu
        exact hc _ y u hi hu
    · exact (go_fail hgo).elim
  · split at hgo
    · rename_i hk
      have f := kd_fact ok (t := t) (by omega)
      obtain ⟨y, hy, hgo⟩ := go_ov hgo
      obtain ⟨e, rfl⟩ := go_ret hgo
      cases e
      have hjl : off < vs.length := by have := (List.getElem?_eq_some_iff.1 hy).1; omega
      refine ⟨rfl, vs[off], ?_, .v (hc off y _ hy (List.getElem?_eq_getElem hjl))⟩
      simp only [part, Sem.run_bind, run_isAgg' f, Result.andThen_ok, hk]
      simp [hjl]
    · exact (go_fail hgo).elim

theorem sound_field (ok : LiteOk P L) (h : Inv c G ρ a w) {t : TypeId} {x y : X} {f : Nat} {u : Value} {H' : Nat → Ob} (hx : RepX G ρ.ob x u) (hgo : (actField L t x f).go ρ.ob (.val y) H') :
    DoneV P c G ρ a (Instr.field t u f) w y H' := by
  unfold actField at hgo
  split at hgo
  · rename_i cs fs hu
    split at hgo
    · rename_i fd hf
      cases hx with
      | v hx =>
        cases hx with
        | @agg _ vs hff hl hr =>
          obtain ⟨rfl, v, hv, hy⟩ := sound_part (G := G) ok hgo hff hl hr w
          have ft := ok.fact t (by rw [hu]; exact fun e => by cases e)
          refine .same h ?_ hy
          simp only [Instr.field, Sem.run_bind, run_underlying' ft, Result.andThen_ok, hu, hf, asAgg, Sem.run_pure, hv]
    · exact (go_fail hgo).elim
  · exact (go_fail hgo).elim

theorem sound_index (ok : LiteOk P L) (h : Inv c G ρ a w) {t : TypeId} {x i y : X} {u v : Value} {H' : Nat → Ob} (hx : RepX G ρ.ob x u) (hi : RepX G ρ.ob i v) (hgo : (actIndex L t x i).go ρ.ob (.val y) H') :
    DoneV P c G ρ a (Instr.index t u v) w y H' := by
  obtain ⟨k, n, hie, hgo2⟩ := go_num hgo
  subst hie
  clear hgo
  have hgo := hgo2
  clear hgo2
  obtain rfl := lit_int hi
  split at hgo
  · rename_i cs len e hu
    split at hgo
    · rename_i hn
      cases hx with
      | v hx =>
        cases hx with
        | @agg _ vs hff hl hr =>
          obtain ⟨rfl, v, hv, hy⟩ := sound_part (G := G) ok hgo hff hl hr w
          have ft := ok.fact t (by rw [hu]; exact fun e => by cases e)
          have fe := ok.fact e (ok.array t len e hu)
          refine .same h ?_ hy
          simp only [Instr.index, asIntOf, Sem.run_bind, Sem.run_pure, Result.andThen_ok, run_underlying' ft, hu]
          simp [hn.1, hn.2, run_sizeOf' fe, hv]
    · exact (go_fail hgo).elim
  · rename_i s hu
    split at hgo
    · rename_i hn
      obtain ⟨b, hb, hgo2⟩ := go_ov hgo
      obtain ⟨e, rfl⟩ := go_ret hgo2
      cases e
      obtain ⟨rfl, _⟩ := lit_val hx
      have ft := ok.fact t (by rw [hu]; exact fun e => by cases e)
      refine .same h ?_ (rep_lit rfl)
      simp only [Instr.index, asIntOf, Sem.run_bind, Sem.run_pure, Result.andThen_ok, run_underlying' ft, hu]
      simp [hn, hb]
    · exact (go_fail hgo).elim
  · exact (go_fail hgo).elim

theorem bounds_go {H : Nat → Ob} {n : Nat} {lo hi : Option X} {lu hu : Option Value} {k : Nat → Nat → Ef Outc} {oc : Outc} {H' : Nat → Ob}
    (hlo : lo.isSome = lu.isSome) (hhi : hi.isSome = hu.isSome) (rlo : ∀ x u, lo = some x → lu = some u → RepX G H x u) (rhi : ∀ x u, hi = some x → hu = some u → RepX G H x u)
    (hgo : (bounds n lo hi k).go H oc H') (b : Bool) {cap : Nat} (hc : n ≤ cap) (w : World) :
    ∃ l h, l ≤ h ∧ h ≤ n ∧ (k l h).go H oc H' ∧ (Instr.sliceBounds b n cap lu hu none).run P w = .ok (l, h, cap) w := by
  unfold bounds at hgo
  cases hi with
  | none =>
    cases hu with
    | some _ => simp at hhi
    | none =>
      cases lo with
      | none =>
        cases lu with
        | some _ => simp at hlo
        | none =>
          simp only at hgo
          split at hgo
          · rename_i hb
            refine ⟨0, n, by omega, Nat.le_refl _, by simpa using hgo, ?_⟩
            simp [Instr.sliceBounds]
          · exact (go_fail hgo).elim
      | some xl =>
        cases lu with
        | none => simp at hlo
        | some ul =>
          simp only at hgo
          obtain ⟨kl, l, rfl, hgo2⟩ := go_num hgo
          obtain rfl := lit_int (rlo _ _ rfl rfl)
          split at hgo2
          · rename_i hb
            refine ⟨l.toNat, n, by omega, Nat.le_refl _, by simpa using hgo2, ?_⟩
            simp only [Instr.sliceBounds, Sem.run_bind, Sem.run_pure, Result.andThen_ok, Option.isSome_none]
            simp [run_sliceBound w kl l n _ hb.1 hb.2.1]
          · exact (go_fail hgo2).elim
  | some xh =>
    cases hu with
    | none => simp at hhi
    | some uh =>
      simp only at hgo
      obtain ⟨kh, hh, hxe, hgo2⟩ := go_num hgo
      subst hxe
      obtain rfl := lit_int (rhi _ _ rfl rfl)
      cases lo with
      | none =>
        cases lu with
        | some _ => simp at hlo
        | none =>
          simp only at hgo2
          split at hgo2
          · rename_i hb
            refine ⟨0, hh.toNat, by omega, by omega, by simpa using hgo2, ?_⟩
            simp only [Instr.sliceBounds, Sem.run_bind, Sem.run_pure, Result.andThen_ok, Option.isSome_none]
            simp [run_sliceBound w kh hh cap _ (by omega) (by omega)]
          · exact (go_fail hgo2).elim
      | some xl =>
        cases lu with
        | none => simp at hlo
        | some ul =>
          simp only at hgo2
          obtain ⟨kl, l, hle, hgo3⟩ := go_num hgo2
          subst hle
          obtain rfl := lit_int (rlo _ _ rfl rfl)
          split at hgo3
          · rename_i hb
            refine ⟨l.toNat, hh.toNat, by omega, by omega, hgo3, ?_⟩
            simp only [Instr.sliceBounds, Sem.run_bind, Sem.run_pure, Result.andThen_ok, Option.isSome_none]
            simp [run_sliceBound w kh hh cap _ (by omega) (by omega), run_sliceBound w kl l hh.toNat _ (by omega) (by omega)]
          · exact (go_fail hgo3).elim

theorem RepSl.part {nu : Nat → Nat → Value → Prop} {mu : Mem} {z : Nat} {es : List (List V)} {b : Option Addr} {cap l h : Nat} (hr : RepSl nu mu z es (.slice b es.length cap)) (h1 : l ≤ h) (h2 : h ≤ es.length) :
    RepSl nu mu z ((es.drop l).take (h - l)) (.slice (if cap = l then b else b.map (·.add (l * z))) (h - l) (cap - l)) := by
  obtain ⟨a, cap', he, hz, hf, hc, hn, hs, hm⟩ := hr
  cases he
  have hlen : ((es.drop l).take (h - l)).length = h - l := by simp; omega
  refine ⟨(if cap = l then b else b.map (·.add (l * z))), cap - l, by rw [hlen], fun e he => hz e (List.mem_of_mem_drop (List.mem_of_mem_take he)), fun e he => hf e (List.mem_of_mem_drop (List.mem_of_mem_take he)), by omega, fun hnone => ?_, fun ad had hne => ?_, fun ad i e j y had hi hj => ?_⟩
  · have : b = none := by
      split at hnone
      · exact hnone
      · simpa using hnone
    obtain ⟨h3, h4⟩ := hn this
    exact ⟨by omega, by simp [h4]⟩
  · have hlt : l < h := by
      rcases Nat.lt_or_ge l h with k | k
      · exact k
      · exfalso; apply hne; rw [show h - l = 0 by omega]; simp
    have hne' : es ≠ [] := fun e => by subst e; simp at h2; omega
    rw [if_neg (by omega)] at had
    cases b with
    | none => simp at had
    | some base =>
      simp at had; subst had
      rw [add_none (hs base rfl hne')]
  · have hil : i < h - l := by have := (List.getElem?_eq_some_iff.1 hi).1; omega
    rw [List.getElem?_take_of_lt hil, List.getElem?_drop] at hi
    have hne' : es ≠ [] := fun e => by subst e; simp at hi
    rw [if_neg (by omega)] at had
    cases b with
    | none => simp at had
    | some base =>
      simp at had; subst had
      obtain ⟨u, hu, hv⟩ := hm base (l + i) e j y rfl hi hj
      refine ⟨u, ?_, hv⟩
      rw [add_none (hs base rfl hne')]
      show nu base.block (base.off + l * z + i * z + j) u
      rw [show base.off + l * z + i * z + j = base.off + (l + i) * z + j by rw [Nat.add_mul]; omega]
      exact hu

theorem run_sliceAt_sl (ok : LiteOk P L) {t e : TypeId} (hu : (L.ti t).und = .slice e) {b : Option Addr} {n cap l h : Nat} {lu hu' : Option Value}
    (hb : (Instr.sliceBounds true n cap lu hu' none).run P w = .ok (l, h, cap) w) :
    (Instr.sliceAt t (.slice b n cap) lu hu' none).run P w = .ok (.slice (if cap = l then b else b.map (·.add (l * (L.ti e).size))) (h - l) (cap - l)) w := by
  have ft := ok.fact t (by rw [hu]; exact fun e => by cases e)
  have fe := ok.fact e (ok.slice t e hu)
  simp only [Instr.sliceAt, Instr.slice, Sem.run_bind, run_underlying' ft, Result.andThen_ok, hu, hb, run_sizeOf' fe, Sem.run_pure]

theorem sound_slice (ok : LiteOk P L) (h : Inv c G ρ a w) {t : TypeId} {x y : X} {u : Value} {lo hi : Option X} {lu hu : Option Value} {H' : Nat → Ob} (hx : RepX G ρ.ob x u)
    (hlo : lo.isSome = lu.isSome) (hhi : hi.isSome = hu.isSome) (rlo : ∀ x u, lo = some x → lu = some u → RepX G ρ.ob x u) (rhi : ∀ x u, hi = some x → hu = some u → RepX G ρ.ob x u)
    (hgo : (actSlice L t x lo hi).go ρ.ob (.val y) H') : DoneV P c G ρ a (Instr.sliceAt t u lu hu none) w y H' := by
  unfold actSlice at hgo
  split at hgo
  · rename_i hut
    split at hgo
    · rename_i s
      obtain ⟨rfl, _⟩ := lit_val hx
      obtain ⟨l, h', h1, h2, hgo2, hb⟩ := bounds_go (P := P) hlo hhi rlo rhi hgo false (Nat.le_refl _) w
      obtain ⟨e, rfl⟩ := go_ret hgo2
      cases e
      have ft := ok.fact t (by rw [hut]; exact fun e => by cases e)
      refine .same h ?_ (rep_lit rfl)
      simp only [Instr.sliceAt, Instr.slice, Sem.run_bind, run_underlying' ft, Result.andThen_ok, hut, hb, Sem.run_pure]
      simp [hb]
    · exact (go_fail hgo).elim
  · rename_i e hut
    split at hgo
    · rename_i z es
      split at hgo
      · rename_i hz; subst hz
        cases hx with
        | v hx =>
          have hsl := hx.toSl
          obtain ⟨b, cap, rfl, hrest⟩ := hsl
          obtain ⟨l, h', h1, h2, hgo2, hb⟩ := bounds_go (P := P) hlo hhi rlo rhi hgo true hrest.2.2.1 w
          obtain ⟨e', rfl⟩ := go_ret hgo2
          cases e'
          exact .same h (run_sliceAt_sl ok hut hb) (.v (RepSl.toV (hx.toSl.part h1 h2)))
      · exact (go_fail hgo).elim
    · rename_i z es
      split at hgo
      · rename_i hz; subst hz
        cases hx with
        | lent hx =>
          have hsl := hx
          obtain ⟨b, cap, rfl, hrest⟩ := hsl
          obtain ⟨l, h', h1, h2, hgo2, hb⟩ := bounds_go (P := P) hlo hhi rlo rhi hgo true hrest.2.2.1 w
          obtain ⟨e', rfl⟩ := go_ret hgo2
          cases e'
          exact .same h (run_sliceAt_sl ok hut hb) (.lent (hx.part h1 h2))
      · exact (go_fail hgo).elim
    · rename_i z
      cases hx
      have hgo0 : (bounds ((0 : Nat) : Int) lo hi fun _ _ => Dv.ok (.nil z)).go ρ.ob (.val y) H' := hgo
      obtain ⟨l, h', h1, h2, hgo2, hb⟩ := bounds_go (P := P) (n := 0) (cap := 0) hlo hhi rlo rhi hgo0 true (Nat.le_refl _) w
      obtain ⟨e', rfl⟩ := go_ret hgo2
      cases e'
      refine .same h (run_sliceAt_sl ok hut hb) ?_
      obtain rfl : h' = 0 := by omega
      obtain rfl : l = 0 := by omega
      simp only [if_true, Nat.sub_self]
      exact .nil z
    · rename_i s g lo' n
      replace hgo := go_get hgo
      split at hgo
      · rename_i g' mt z es hs
        split at hgo
        · rename_i hz; obtain ⟨rfl, rfl⟩ := hz
          cases hx with
          | @own _ _ _ _ cap base hg hh =>
            obtain ⟨k1, k2, b, hb', k3, k4⟩ := hh mt _ es hs
            obtain ⟨l, h', h1, h2, hgo2, hb⟩ := bounds_go (P := P) hlo hhi rlo rhi hgo true k2 w
            obtain ⟨e', rfl⟩ := go_ret hgo2
            cases e'
            refine .same h (v := .slice (some (if cap = l then base else base.add (l * (L.ti e).size))) (h' - l) (cap - l)) ?_ (.own hg fun mt' z' es' hs' => ?_)
            · rw [run_sliceAt_sl ok hut hb]
              split <;> rfl
            · rw [hs] at hs'; cases hs'
              refine ⟨by omega, by omega, b, hb', fun hpos => ?_, fun hz => ?_⟩
              · rw [if_neg (by omega), k3 (by omega), add_block, Nat.add_mul]
              · obtain rfl : l = 0 := by omega
                obtain rfl : lo' = 0 := by omega
                obtain ⟨rfl, rfl⟩ := k4 rfl
                simp [Addr.add]
        · exact (go_fail hgo).elim
      · exact (go_fail hgo).elim
    · exact (go_fail hgo).elim
  · exact (go_fail hgo).elim

theorem bytesOf_spec : ∀ {es : List (List V)} {l : List UInt8}, bytesOf es = some l → ∃ ns : List Int, es = ns.map (fun n => [V.lit (.int .u8 n)]) ∧ l = ns.map fun n => UInt8.ofNat n.toNat
  | [], l, h => by simp only [bytesOf, Option.some.injEq] at h; subst h; exact ⟨[], rfl, rfl⟩
  | e :: r, l, h => by
    unfold bytesOf at h
    split at h
    · rename_i heq; cases heq
    · rename_i n r' heq
      cases heq
      split at h
      · rename_i l' hl
        cases h
        obtain ⟨ns, h1, h2⟩ := bytesOf_spec hl
        exact ⟨n :: ns, by simp [h1], by simp [h2]⟩
      · cases h
    · cases h

theorem foldl_push : ∀ (ns : List Int) (s : ByteArray), ns.foldl (fun r n => r.push (UInt8.ofNat n.toNat)) s = ⟨(s.data.toList ++ ns.map fun n => UInt8.ofNat n.toNat).toArray⟩
  | [], s => by simp
  | n :: ns, s => by
    rw [List.foldl_cons, foldl_push ns]
    simp [ByteArray.push]

theorem sound_convert (ok : LiteOk P L) (h : Inv c G ρ a w) {src dst : TypeId} {x y : X} {u : Value} {H' : Nat → Ob} (hx : RepX G ρ.ob x u) (hgo : (actConvert L src dst x).go ρ.ob (.val y) H') :
    DoneV P c G ρ a (convert src dst u) w y H' := by
  unfold actConvert at hgo
  split at hgo
  · exact (go_fail hgo).elim
  · rename_i hk
    have fs := kd_fact ok hk
    split at hgo
    · rename_i k hd
      have fd := ok.fact dst (by rw [hd]; exact fun e => by cases e)
      split at hgo
      · obtain ⟨e, rfl⟩ := go_ret hgo
        cases e
        obtain rfl := lit_int hx
        refine .same h ?_ (rep_lit rfl)
        simp only [convert, Sem.run_bind, run_underlying' fs, run_underlying' fd, Result.andThen_ok, hd]
        cases (L.ti src).und <;> rfl
      · exact (go_fail hgo).elim
    · rename_i hd
      have fd := ok.fact dst (by rw [hd]; exact fun e => by cases e)
      split at hgo
      · obtain ⟨e, rfl⟩ := go_ret hgo
        cases e
        obtain rfl := lit_int hx
        refine .same h ?_ (rep_lit rfl)
        simp only [convert, Sem.run_bind, run_underlying' fs, run_underlying' fd, Result.andThen_ok, hd]
        cases (L.ti src).und <;> rfl
      · obtain ⟨e, rfl⟩ := go_ret hgo
        cases e
        obtain ⟨rfl, _⟩ := lit_val hx
        refine .same h ?_ (rep_lit rfl)
        simp only [convert, Sem.run_bind, run_underlying' fs, run_underlying' fd, Result.andThen_ok, hd]
        cases (L.ti src).und <;> rfl
      · split at hgo
        · rename_i e hs
          split at hgo
          · rename_i he
            have fe := ok.fact e (by rw [he]; exact fun e => by cases e)
            obtain ⟨z, es, hr, hgo2⟩ := sound_rdSl h hx hgo
            obtain ⟨l, hl, hgo3⟩ := go_ov hgo2
            obtain ⟨e', rfl⟩ := go_ret hgo3
            cases e'
            obtain ⟨ns, rfl, rfl⟩ := bytesOf_spec hl
            obtain ⟨b, cap, rfl, hz, hf, hc, hn, hsp, hm⟩ := hr
            refine .same h ?_ (rep_lit rfl)
            rw [run_convert_bytes_string w src dst e b _ cap (by rw [fs.und, hs]) (by rw [fe.und, he]) (by rw [fd.und, hd])]
            cases b with
            | none =>
              obtain ⟨_, hne⟩ := hn rfl
              simp at hne
              subst hne
              simp [Conv.bytesToString]
              rfl
            | some base =>
              have hload : (loadCells base (ns.map fun n => [V.lit (.int .u8 n)]).length).run P w = .ok (ns.map (Value.int .u8)).toArray w := by
                have := run_loadCells_list (P := P) w base (ns.map (Value.int .u8)) (fun j v hj => ?_)
                · simpa using this
                · have hjl : j < ns.length := by have := (List.getElem?_eq_some_iff.1 hj).1; simpa using this
                  have hne : (ns.map fun n => [V.lit (Value.int .u8 n)]) ≠ [] := fun e => by simp at e; subst e; simp at hjl
                  have hz1 : z = 1 := by
                    have := hz [V.lit (.int .u8 ns[j])] (List.mem_map.2 ⟨ns[j], List.getElem_mem hjl, rfl⟩)
                    simpa using this.symm
                  obtain ⟨u, hu, hv⟩ := hm base j [V.lit (.int .u8 ns[j])] 0 (V.lit (.int .u8 ns[j])) rfl (by simp [hjl]) rfl
                  rw [add_none (hsp base rfl hne)]
                  cases hv
                  simp only [hz1, Nat.mul_one, Nat.add_zero] at hu
                  rw [hu]
                  simp [hjl] at hj
                  rw [hj]
              rw [run_bytesToString w base _ cap ns hload, foldl_push]
              simp
          · exact (go_fail hgo).elim
        · exact (go_fail hgo).elim
    · exact (go_fail hgo).elim

end
end Go.Dv
