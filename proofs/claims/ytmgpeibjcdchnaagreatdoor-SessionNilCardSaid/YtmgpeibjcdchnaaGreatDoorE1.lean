/- The engine, part 1: an abstract machine for closed calls, proved sound against the kit machine, for every tape. No condition. -/
import GoSem.Step
import Derived.Laws.World
import Derived.Laws.Sem
import Derived.Laws.Entries
import Derived.Laws.StructEq
import Derived.Laws.Strings
import Derived.Laws.Concat
import Derived.Laws.Cells
import Derived.Laws.BytesString
import Derived.Laws.Slices
/- The engine: an abstract machine for closed calls: own values, memory by abstract names, no tape. Here: values, memory, operations. -/
namespace Go.Eng

inductive Tr (α : Type) where
  | nil
  | node (v : Option α) (l r : Tr α)

def Tr.get {α : Type} : Tr α → Nat → Option α
  | .nil, _ => none
  | .node v l r, i =>
    match i with
    | 0 => v
    | n + 1 => match n % 2 with
      | 0 => l.get (n / 2)
      | _ => r.get (n / 2)

def Tr.setF {α : Type} : Nat → Tr α → Nat → α → Tr α
  | 0, t, _, _ => t
  | f + 1, t, i, a =>
    match t with
    | .nil => match i with
      | 0 => .node (some a) .nil .nil
      | n + 1 => match n % 2 with
        | 0 => .node none (Tr.setF f .nil (n / 2) a) .nil
        | _ => .node none .nil (Tr.setF f .nil (n / 2) a)
    | .node v l r => match i with
      | 0 => .node (some a) l r
      | n + 1 => match n % 2 with
        | 0 => .node v (Tr.setF f l (n / 2) a) r
        | _ => .node v l (Tr.setF f r (n / 2) a)

def Tr.set {α : Type} (t : Tr α) (i : Nat) (a : α) : Tr α := Tr.setF (i + 1) t i a

inductive AV where
  | sc (v : Value)
  | str (l : List Nat)
  | ptr (n off : Nat)
  | slc (n off len : Nat) (cap : Option Nat)
  | emp
  | mp (n : Nat)
  | fn (f : Fn) (first captured : List AV)
  | yld (n : Nat)
  | ifc (t : TypeId) (v : AV)
  | agg (cells : List AV)
  | tup (vs : List AV)
  | any
  deriving Inhabited

inductive ADef where
  | mark (n : Nat)
  | call (f : FuncId) (args : List AV)
  deriving Inhabited

structure ALoop where
  state : LoopState
  pending : Option Code
  fn : FuncId
  tm : Tr AV
  sz : Nat
  params : Array Tmp
  assign : Code
  body : Code
  defers : Nat

structure MapE where
  key : AV
  val : AV
  born : Nat

inductive AObj where
  | cells (t : Tr AV) (size : Nat) (dflt : List AV) (elem : TypeId) (esz : Nat) (grow : Bool)
  | map (es : List MapE) (clock : Nat)
  | loop (l : ALoop)
  | deferred (ds : List ADef)
  | siter (s : List Nat) (pos : Nat)
  | dead

structure Heap where
  tr : Tr AObj
  next : Nat
  log : List Nat

structure TI where
  desc : TypeDesc
  size : Nat
  bytes : Nat
  agg : Bool
  zero : List AV
  cmp : Bool
  eqg : Bool
  stood : Bool

/-- What the machine is run over: the types' table, the functions' table, how many package-level variables there are. -/
structure Env where
  T : Tr TI
  F : Tr Func
  nG : Nat

def strOf (s : ByteArray) : AV := .str (s.data.toList.map UInt8.toNat)

/-- A constant's cell. -/
def ofC (v : Value) : AV :=
  match v with
  | .string s => strOf s
  | v => .sc v

def ofV (v : Value) : AV :=
  match v with
  | .string s => strOf s
  | .agg cs => .agg (cs.toList.map ofC)
  | .tuple vs => match vs.toList with
    | [] => .tup []
    | _ => .sc (.tuple vs)
  | .iface t v => .ifc t (ofC v)
  | v => .sc v

def ev (nG : Nat) (tm : Tr AV) (x : Operand) : Option AV :=
  match x with
  | .tmp t => tm.get t
  | .const v => some (ofV v)
  | .global g => match Nat.blt g nG with
    | true => some (.ptr g 0)
    | false => none
  | .func f => some (.fn (.func f) [] [])

def evs (nG : Nat) (tm : Tr AV) : List Operand → Option (List AV)
  | [] => some []
  | o :: os => match ev nG tm o with
    | none => none
    | some v => match evs nG tm os with
      | none => none
      | some vs => some (v :: vs)

def evO (nG : Nat) (tm : Tr AV) (x : Option Operand) : Option (Option AV) :=
  match x with
  | none => some none
  | some x => match ev nG tm x with
    | some v => some (some v)
    | none => none

def lget {α : Type} : List α → Nat → Option α
  | [], _ => none
  | a :: l, i => match i with
    | 0 => some a
    | n + 1 => lget l n

def cellsOf (v : AV) : List AV :=
  match v with
  | .agg cs => cs
  | v => [v]

/-- Is it known what its cells are? -/
def boxable (v : AV) : Bool :=
  match v with
  | .any => false
  | .sc v => match v with
    | .agg _ => false
    | _ => true
  | _ => true

/-- The i-th cell of a row of so many. -/
def cellA (t : Tr AV) (size : Nat) (dflt : List AV) (i : Nat) : Option AV :=
  match Nat.blt i size with
  | false => none
  | true => match t.get i with
    | some v => some v
    | none => lget dflt (i % dflt.length)

def Heap.obj (h : Heap) (n : Nat) : Option AObj := h.tr.get n
def Heap.put (h : Heap) (n : Nat) (o : AObj) : Heap := ⟨h.tr.set n o, h.next, n :: h.log⟩
def Heap.new (h : Heap) (o : AObj) : Heap := ⟨h.tr.set h.next o, h.next + 1, h.log⟩

def live (h : Heap) (n : Nat) : Bool :=
  match h.obj n with
  | some .dead | none => false
  | _ => true

/-- k cells from off on. -/
def readCells (t : Tr AV) (size : Nat) (dflt : List AV) : Nat → Nat → Option (List AV)
  | 0, _ => some []
  | k + 1, off => match cellA t size dflt off with
    | none => none
    | some v => match readCells t size dflt k (off + 1) with
      | none => none
      | some vs => some (v :: vs)

def Heap.read (h : Heap) (n off k : Nat) : Option (List AV) :=
  match k with
  | 0 => some []
  | k + 1 => match h.obj n with
    | some (.cells t size dflt _ _ _) => readCells t size dflt (k + 1) off
    | _ => none

def setCells (t : Tr AV) (off : Nat) : List AV → Tr AV
  | [] => t
  | v :: vs => setCells (t.set off v) (off + 1) vs

/-- May it stand in one cell, for sure? -/
def simple (v : AV) : Bool :=
  match v with
  | .agg _ | .tup _ | .any => false
  | .sc v => match v with
    | .agg _ | .tuple _ => false
    | _ => true
  | _ => true

def Heap.write (h : Heap) (n off : Nat) (vs : List AV) : Option Heap :=
  match vs with
  | [] => some h
  | _ :: _ => match h.obj n with
    | some (.cells t size dflt e s g) =>
      match Nat.ble (off + vs.length) size && vs.all simple with
      | true => some (h.put n (.cells (setCells t off vs) size dflt e s g))
      | false => none
    | _ => none

def rowObj (cells : List AV) (e : TypeId) (s : Nat) (g : Bool) : AObj := .cells (setCells .nil 0 cells) cells.length [] e s g

def loadT (E : Env) (h : Heap) (t : TypeId) (p : AV) : Option AV :=
  match p with
  | .ptr n off => match E.T.get t with
    | none => none
    | some i => match i.agg with
      | true => match h.read n off i.size with
        | some cs => some (.agg cs)
        | none => none
      | false => match h.read n off 1 with
        | some [v] => some v
        | _ => none
  | _ => none

def intOf (v : AV) : Option Int :=
  match v with
  | .sc (.int _ n) => some n
  | _ => none

def natOf (v : AV) : Option Nat :=
  match v with
  | .sc (.int _ (.ofNat n)) => some n
  | _ => none

def natsEq : List Nat → List Nat → Bool
  | [], [] => true
  | a :: x, b :: y => match Nat.beq a b with
    | true => natsEq x y
    | false => false
  | _, _ => false

def natsLess : List Nat → List Nat → Bool
  | _, [] => false
  | [], _ :: _ => true
  | a :: x, b :: y => match Nat.blt a b with
    | true => true
    | false => match Nat.beq a b with
      | true => natsLess x y
      | false => false

def allM {α : Type} (f : α → Option Bool) : List α → Option Bool
  | [] => some true
  | a :: l => match f a with
    | none => none
    | some false => some false
    | some true => allM f l

def partOf (E : Env) (t : TypeId) (cs : List AV) (off : Nat) : Option AV :=
  match E.T.get t with
  | none => none
  | some i => match i.agg with
    | true => match Nat.ble (off + i.size) cs.length with
      | true => some (.agg ((cs.drop off).take i.size))
      | false => none
    | false => lget cs off

def aeq (E : Env) (h : Heap) : Nat → TypeId → AV → AV → Option Bool
  | 0, _, _, _ => none
  | d + 1, t, x, y =>
    match E.T.get t with
    | none => none
    | some i => match i.desc, x, y with
      | .bool, .sc (.bool a), .sc (.bool b) => some (a == b)
      | .int _, .sc (.int k a), .sc (.int k' b) => if k = k' then some (a == b) else none
      | .string, .str a, .str b => some (natsEq a b)
      | .complex _, .sc (.complex k a b), .sc (.complex k' c d) => if k = k' then some (Op.floatEq k a c && Op.floatEq k b d) else none
      | .float _, .sc (.float k a), .sc (.float k' b) => if k = k' then some (Op.floatEq k a b) else none
      | .pointer _, .sc (.pointer none), .sc (.pointer none) => some true
      | .pointer _, .sc (.pointer none), .ptr _ _ => some false
      | .pointer _, .ptr _ _, .sc (.pointer none) => some false
      | .pointer e, .ptr n o, .ptr m o' => match E.T.get e with
        | none => none
        | some ei => if ei.size = 0 then none else if n = m then some (o == o') else none
      | .interface _, .sc .nilIface, .sc .nilIface => some true
      | .interface _, .sc .nilIface, .ifc _ _ => some false
      | .interface _, .ifc _ _, .sc .nilIface => some false
      | .interface _, .ifc s v, .ifc u w => if s = u then (match E.T.get s with
        | some si => match si.cmp with
          | true => aeq E h d s v w
          | false => none
        | none => none) else some false
      | .struct fields, .agg xs, .agg ys => match i.stood with
        | true => none
        | false => allM (fun (f : Field) => if f.name = "_" then some true else match partOf E f.type xs f.offset, partOf E f.type ys f.offset with
          | some a, some b => aeq E h d f.type a b
          | _, _ => none) fields.toList
      | .array len et, .agg xs, .agg ys => match E.T.get et with
        | none => none
        | some ei => allM (fun k => match partOf E et xs (k * ei.size), partOf E et ys (k * ei.size) with
          | some a, some b => aeq E h d et a b
          | _, _ => none) (List.range len)
      | .slice _, .sc (.slice none _ _), .sc (.slice none _ _) => some true
      | .slice _, .sc (.slice none _ _), .slc _ _ _ _ => some false
      | .slice _, .slc _ _ _ _, .sc (.slice none _ _) => some false
      | .slice _, .emp, .sc (.slice none _ _) => some false
      | .map _ _, .sc (.map none), .sc (.map none) => some true
      | .map _ _, .sc (.map none), .mp _ => some false
      | .map _ _, .mp _, .sc (.map none) => some false
      | .func _ _ _, .sc .nilFunc, .sc .nilFunc => some true
      | .func _ _ _, .sc .nilFunc, .fn _ _ _ => some false
      | .func _ _ _, .fn _ _ _, .sc .nilFunc => some false
      | .func _ _ _, .yld _, .sc .nilFunc => some false
      | _, _, _ => none

def wrapI (k : IntKind) (n : Int) : Int :=
  match n with
  | .ofNat m => match Nat.blt m (match k with | .i8 => 128 | .u8 => 256 | .i16 => 32768 | .u16 => 65536 | .i32 => 2147483648 | .u32 => 4294967296 | .i64 => 9223372036854775808 | .u64 => 18446744073709551616) with
    | true => .ofNat m
    | false => k.wrap n
  | .negSucc m => k.wrap (.negSucc m)

def pureSem (s : Sem Value) : Option AV :=
  match s with
  | .pure v => match v with
    | .string _ | .agg _ | .iface _ _ | .tuple _ => none
    | _ => some (.sc v)
  | _ => none

def isCmp (op : BinOp) : Bool :=
  match op with
  | .eql | .neq => true
  | _ => false

def intBin (op : BinOp) (k : IntKind) (a b : Int) : Option AV :=
  match op with
  | .add => some (.sc (.int k (wrapI k (a + b))))
  | .sub => some (.sc (.int k (wrapI k (a - b))))
  | .mul => some (.sc (.int k (wrapI k (a * b))))
  | .quo => if b = 0 then none else some (.sc (.int k (wrapI k (a.tdiv b))))
  | .rem => if b = 0 then none else some (.sc (.int k (a.tmod b)))
  | .and => pureSem (Op.intBits .and k a b)
  | .or => pureSem (Op.intBits .or k a b)
  | .xor => pureSem (Op.intBits .xor k a b)
  | .andNot => pureSem (Op.intBits .andNot k a b)
  | .eql => some (.sc (.bool (decide (a = b))))
  | .neq => some (.sc (.bool (!decide (a = b))))
  | .lss => some (.sc (.bool (decide (a < b))))
  | .leq => some (.sc (.bool (decide (a ≤ b))))
  | .gtr => some (.sc (.bool (decide (b < a))))
  | .geq => some (.sc (.bool (decide (b ≤ a))))
  | _ => none

def strBin (op : BinOp) (a b : List Nat) : Option AV :=
  match op with
  | .add => match Nat.blt (a.length + b.length) 9223372036854775808 with
    | true => some (.str (a ++ b))
    | false => none
  | .eql => some (.sc (.bool (natsEq a b)))
  | .neq => some (.sc (.bool (!natsEq a b)))
  | .lss => some (.sc (.bool (natsLess a b)))
  | .leq => some (.sc (.bool (natsLess a b || natsEq a b)))
  | .gtr => some (.sc (.bool (!(natsLess a b || natsEq a b))))
  | .geq => some (.sc (.bool (!natsLess a b)))
  | _ => none

def isConst (x : Operand) : Bool :=
  match x with
  | .const _ => true
  | _ => false

def guardOk (E : Env) (t : TypeId) (x y : Operand) (a b : AV) : Bool :=
  match a, b with
  | .sc .nilIface, .sc .nilIface => isConst x || isConst y
  | .agg _, .agg _ => match E.T.get t with
    | some i => !i.eqg
    | none => false
  | .any, _ => false
  | _, .any => false
  | .sc (.agg _), _ => false
  | _, .sc (.agg _) => false
  | _, _ => true

def abin (E : Env) (h : Heap) (op : BinOp) (t : TypeId) (x y : Operand) (a b : AV) : Option AV :=
  match a, b with
  | .sc (.int k m), .sc (.int k' n) => match op with
    | .shl => if n < 0 then none else pureSem (Op.shift .shl k m k' n)
    | .shr => if n < 0 then none else pureSem (Op.shift .shr k m k' n)
    | op => if k = k' then intBin op k m n else none
  | .sc (.float k m), .sc (.float k' n) => if k = k' then pureSem (binOp op t (.float k m) (.float k' n)) else none
  | .sc (.complex k m n), .sc (.complex k' m' n') => if k = k' then pureSem (binOp op t (.complex k m n) (.complex k' m' n')) else none
  | .str m, .str n => strBin op m n
  | a, b => match guardOk E t x y a b with
    | true => match op with
      | .eql => match aeq E h 10000 t a b with
        | some r => some (.sc (.bool r))
        | none => none
      | .neq => match aeq E h 10000 t a b with
        | some r => some (.sc (.bool (!r)))
        | none => none
      | _ => none
    | false => none

def fillA : List (Nat × Nat × AV) → List AV → Option (List AV)
  | [], cells => some cells
  | (off, size, v) :: rest, cells =>
    match boxable v && Nat.beq (cellsOf v).length size && Nat.ble (off + size) cells.length with
    | true => fillA rest (cells.take off ++ (cellsOf v ++ cells.drop (off + size)))
    | false => none

def fieldOf (E : Env) (t : TypeId) (f : Nat) : Option Field :=
  match E.T.get t with
  | some i => match i.desc with
    | .struct fs => fs[f]?
    | _ => none
  | none => none

def sizeT (E : Env) (t : TypeId) : Option Nat :=
  match E.T.get t with
  | some i => some i.size
  | none => none

def partsA (E : Env) (tm : Tr AV) (place : Nat → Option (Nat × Nat)) : List (Nat × Operand) → Option (List (Nat × Nat × AV))
  | [] => some []
  | (i, x) :: rest => match place i, ev E.nG tm x with
    | some (off, size), some v => match partsA E tm place rest with
      | some l => some ((off, size, v) :: l)
      | none => none
    | _, _ => none

def rep {α : Type} : Nat → List α → List α
  | 0, _ => []
  | n + 1, l => l ++ rep n l

def bytesOf : List AV → Option (List Nat)
  | [] => some []
  | v :: l => match v with
    | .sc (.int .u8 (.ofNat n)) => match Nat.blt n 256 with
      | true => match bytesOf l with
        | some r => some (n :: r)
        | none => none
      | false => none
    | _ => none

def ofBytes (l : List Nat) : List AV := l.map fun n => .sc (.int .u8 (.ofNat n))

def bytesNat (s : ByteArray) : List Nat := s.data.toList.map UInt8.toNat

def toB (l : List Nat) : ByteArray := ⟨(l.map UInt8.ofNat).toArray⟩

def utf8Nats (n : Int) : List Nat := bytesNat (Utf8.encode n)

def runesOf : List AV → Option (List Nat)
  | [] => some []
  | v :: l => match v with
    | .sc (.int .i32 n) => match runesOf l with
      | some r => some (utf8Nats n ++ r)
      | none => none
    | _ => none

/-- The runes of a string. -/
def toRunes (l : List Nat) : List AV := (Conv.runesFrom (toB l) (toB l).size 0 #[]).toList.map .sc

/-- The bound of a slice expression: a number from 0 to y. -/
def bound (y : Nat) (v : Option AV) (d : Nat) : Option Nat :=
  match v with
  | none => some d
  | some v => match natOf v with
    | some n => match Nat.ble n y with
      | true => some n
      | false => none
    | none => none

/-- The bounds of x[lo:hi:mx]: from, to, and the third one if it is there. -/
def bnds (len cap : Nat) (lo hi mx : Option AV) : Option (Nat × Nat × Option Nat) :=
  match mx with
  | none => match bound cap hi len with
    | some h => match bound h lo 0 with
      | some l => some (l, h, none)
      | none => none
    | none => none
  | some v => match bound cap (some v) 0 with
    | some m => match hi with
      | none => none
      | some hv => match bound m (some hv) 0 with
        | some h => match bound h lo 0 with
          | some l => some (l, h, some m)
          | none => none
        | none => none
    | none => none

/-- x[lo:hi:mx] of a slice. -/
def slcA (n off len : Nat) (cap : Option Nat) (s : Nat) (lo hi mx : Option AV) : Option AV :=
  match cap with
  | some c => match bnds len c lo hi mx with
    | some (l, h, some m) => some (.slc n (if m = l then off else off + l * s) (h - l) (some (m - l)))
    | some (l, h, none) => some (.slc n (if c = l then off else off + l * s) (h - l) (some (c - l)))
    | none => none
  | none => match bnds len len lo hi mx with
    | some (l, h, some m) => some (.slc n (if m = l then off else off + l * s) (h - l) (some (m - l)))
    | some (l, h, none) => if l < len then some (.slc n (off + l * s) (h - l) none)
        else if l = 0 then some (.slc n off 0 none) else some .emp
    | none => none

def zeroA (i : TI) : Option AV :=
  match i.agg with
  | true => some (.agg i.zero)
  | false => match i.zero with
    | [v] => some v
    | _ => none

def lenA (h : Heap) (v : AV) : Option Nat :=
  match v with
  | .str l => some l.length
  | .slc _ _ n _ => some n
  | .sc (.slice none n _) => some n
  | .emp => some 0
  | .mp n => match h.obj n with
    | some (.map es _) => some es.length
    | _ => none
  | .sc (.map none) => some 0
  | _ => none

def vI (n : Nat) : AV := .sc (.int .i64 (.ofNat n))

def foldA (f : AV → AV → Option AV) : AV → List AV → Option AV
  | v, [] => some v
  | v, x :: l => match f v x with
    | some w => foldA f w l
    | none => none

def min2A (mx : Bool) (a b : AV) : Option AV :=
  match a, b with
  | .sc (.int k x), .sc (.int k' y) => pureSem (match mx with | true => Builtin.max2 (.int k x) (.int k' y) | false => Builtin.min2 (.int k x) (.int k' y))
  | .sc (.float k x), .sc (.float k' y) => pureSem (match mx with | true => Builtin.max2 (.float k x) (.float k' y) | false => Builtin.min2 (.float k x) (.float k' y))
  | _, _ => none

/-- The cells of a source of append or copy, of elements of s cells. -/
def srcCells (h : Heap) (s : Nat) (v : AV) : Option (List AV × Nat) :=
  match v with
  | .str l => if s = 1 then some (ofBytes l, l.length) else none
  | .sc (.slice none 0 _) => some ([], 0)
  | .emp => some ([], 0)
  | .slc n off len _ => match h.read n off (len * s) with
    | some cs => some (cs, len)
    | none => none
  | _ => none

def idxB (b : ByteArray) (c : UInt8) : Int :=
  match (List.range b.size).find? fun i => b[i]! == c with
  | some i => .ofNat i
  | none => -1

/-- The functions without a body. -/
def externA (name origin : String) (args : List AV) : Option AV :=
  if origin ≠ "" then none
  else if name = "internal/abi.NoEscape" then match args with
    | [p] => some p
    | _ => none
  else if name = "internal/bytealg.IndexByteString" then match args with
    | [.str l, .sc (.int .u8 c)] => some (.sc (.int .i64 (idxB (toB l) c.toNat.toUInt8)))
    | _ => none
  else if name = "internal/bytealg.abigen_runtime_cmpstring" then match args with
    | [.str a, .str b] => some (.sc (.int .i64 (Extern.BytealgCompare.cmp (toB a) (toB b))))
    | _ => none
  else none

/-- Builtins that leave the memory as it is. -/
def builtinQ (E : Env) (h : Heap) (b : Builtin) (argTypes : Array TypeId) (args : List AV) : Option AV :=
  match b, args with
  | .len, [x] => match argTypes[0]? with
    | some t => match E.T.get t with
      | some i => match i.desc with
        | .array n _ => some (vI n)
        | .pointer arr => match E.T.get arr with
          | some j => match j.desc with
            | .array n _ => some (vI n)
            | _ => none
          | none => none
        | .string => match x with
          | .str l => some (vI l.length)
          | _ => none
        | .slice _ => match x with
          | .str _ | .mp _ | .sc (.map none) => none
          | x => match lenA h x with
            | some n => some (vI n)
            | none => none
        | .map _ _ => match x with
          | .mp _ | .sc (.map none) => match lenA h x with
            | some n => some (vI n)
            | none => none
          | _ => none
        | _ => none
      | none => none
    | none => none
  | .min, x :: l => match x with
    | .sc _ => foldA (min2A false) x l
    | _ => none
  | .max, x :: l => match x with
    | .sc _ => foldA (min2A true) x l
    | _ => none
  | .real, [.sc (.complex k re _)] => some (.sc (.float k re))
  | .imag, [.sc (.complex k _ im)] => some (.sc (.float k im))
  | .complex, [.sc (.float k re), .sc (.float k' im)] => if k = k' then some (.sc (.complex k re im)) else none
  | .unsafeSliceData, [.slc n off _ (some c)] => if c = 0 then none else some (.ptr n off)
  | .unsafeSliceData, [.slc n off len none] => if len = 0 then none else some (.ptr n off)
  | .unsafeSliceData, [.sc (.slice none _ _)] => some (.sc (.pointer none))
  | _, _ => none

/-- Conversions that leave the memory as it is. -/
def convQ (E : Env) (h : Heap) (src dst : TypeId) (x : AV) : Option AV :=
  match E.T.get src, E.T.get dst with
  | some i, some j => match i.desc, j.desc, x with
    | _, .int k, .sc (.int _ n) => some (.sc (.int k (wrapI k n)))
    | _, .float k, .sc (.int _ n) => pureSem (Conv.intToFloat k n)
    | _, .int k, .sc (.float s b) => pureSem (Conv.floatToInt s b k)
    | _, .float k, .sc (.float s b) => pureSem (Conv.floatToFloat s b k)
    | _, .string, .str l => some (.str l)
    | _, .string, .sc (.int _ n) => some (.str (utf8Nats n))
    | .pointer t, .unsafePointer, .ptr n off => match h.obj n, sizeT E t with
      | some (.cells _ size _ _ _ _), some (_ + 1) => if off < size then some (.ptr n off) else none
      | _, _ => none
    | .unsafePointer, .pointer u, .ptr n off => match h.obj n, sizeT E u with
      | some (.cells _ size _ e _ false), some (s + 1) =>
        if e = u ∧ off % (s + 1) = 0 ∧ off + (s + 1) ≤ size then some (.ptr n off) else none
      | _, _ => none
    | .slice e, .string, x => match E.T.get e with
      | some ei => match ei.desc with
        | .int .u8 => match x with
          | .str _ => none
          | x => match srcCells h 1 x with
            | some (cs, _) => match bytesOf cs with
              | some bs => some (.str bs)
              | none => none
            | none => none
        | .int .i32 => match x with
          | .str _ => none
          | x => match srcCells h 1 x with
            | some (cs, _) => match runesOf cs with
              | some bs => some (.str bs)
              | none => none
            | none => none
        | _ => none
      | none => none
    | _, _, _ => none
  | _, _ => none

def optNatEq : Option Nat → Option Nat → Bool
  | none, none => true
  | some a, some b => Nat.beq a b
  | _, _ => false

def scEq : Value → Value → Bool
  | .bool a, .bool b => a == b
  | .int k a, .int k' b => decide (k = k') && decide (a = b)
  | .float k a, .float k' b => decide (k = k') && decide (a = b)
  | .complex k a b, .complex k' c d => decide (k = k') && decide (a = c) && decide (b = d)
  | .pointer none, .pointer none => true
  | .slice none a b, .slice none c d => Nat.beq a c && Nat.beq b d
  | .map none, .map none => true
  | .nilFunc, .nilFunc => true
  | .nilIface, .nilIface => true
  | _, _ => false

mutual
def avEq : AV → AV → Bool
  | .sc a, .sc b => scEq a b
  | .str a, .str b => natsEq a b
  | .ptr a b, .ptr c d => Nat.beq a c && Nat.beq b d
  | .slc a b c d, .slc a' b' c' d' => Nat.beq a a' && Nat.beq b b' && Nat.beq c c' && optNatEq d d'
  | .emp, .emp => true
  | .mp a, .mp b => Nat.beq a b
  | .fn f a b, .fn f' a' b' => decide (f = f') && avsEq a a' && avsEq b b'
  | .yld a, .yld b => Nat.beq a b
  | .ifc t v, .ifc u w => Nat.beq t u && avEq v w
  | .agg a, .agg b => avsEq a b
  | .tup a, .tup b => avsEq a b
  | _, _ => false
def avsEq : List AV → List AV → Bool
  | [], [] => true
  | a :: l, b :: r => avEq a b && avsEq l r
  | _, _ => false
end

/-- The element that a map holds for a key, with its place. -/
def mapFind (E : Env) (h : Heap) (kt : TypeId) (k : AV) : List MapE → Option (Option MapE)
  | [] => some none
  | e :: es => match aeq E h 10000 kt k e.key with
    | some true => some (some e)
    | some false => mapFind E h kt k es
    | none => none

def mapPut (E : Env) (h : Heap) (kt : TypeId) (k v : AV) (clock : Nat) : List MapE → Option (List MapE × Nat)
  | [] => some ([⟨k, v, clock⟩], clock + 1)
  | e :: es => match aeq E h 10000 kt k e.key with
    | some true => match avEq k e.key with
      | true => some (⟨k, v, e.born⟩ :: es, clock)
      | false => none
    | some false => match mapPut E h kt k v clock es with
      | some (es', c) => some (e :: es', c)
      | none => none
    | none => none

def mapDel (E : Env) (h : Heap) (kt : TypeId) (k : AV) : List MapE → Option (List MapE)
  | [] => some []
  | e :: es => match aeq E h 10000 kt k e.key with
    | some true => some es
    | some false => match mapDel E h kt k es with
      | some es' => some (e :: es')
      | none => none
    | none => none

def entryPut (b : Nat) (v : AV) : List MapE → Option (List MapE)
  | [] => none
  | e :: es => match Nat.beq e.born b with
    | true => some (⟨e.key, v, e.born⟩ :: es)
    | false => match entryPut b v es with
      | some es' => some (e :: es')
      | none => none

/-- Is it a type whose values are keys without a look into them? -/
def keyType (d : TypeDesc) : Bool :=
  match d with
  | .int _ | .string | .bool => true
  | _ => false

/-- Keys that may be: no interfaces, no floats. -/
def keyFits (E : Env) : Nat → TypeId → AV → Bool
  | 0, _, _ => false
  | d + 1, t, v =>
    match E.T.get t with
    | none => false
    | some i => match i.desc, v with
      | .struct fs, .agg xs => fs.toList.all fun f => match partOf E f.type xs f.offset with
        | some y => keyFits E d f.type y
        | none => false
      | .array len et, .agg xs => match E.T.get et with
        | none => false
        | some ei => (List.range len).all fun k => match partOf E et xs (k * ei.size) with
          | some y => keyFits E d et y
          | none => false
      | d, _ => keyType d

def keyIn (E : Env) (d : TypeDesc) (k : AV) : Bool :=
  match d with
  | .map kt _ => keyFits E 4 kt k
  | _ => false

/-- How a call ends. -/
inductive AEnd where
  | ret (v : AV) (h : Heap)
  | pan (chain : List (AV × Bool)) (h : Heap)

/-- What an operation comes to that is not done at once. -/
inductive Out where
  | val (v : AV)
  | enter (f : FuncId) (args : List AV)
  | round (n : Nat) (args : List AV)
  | defer (d : ADef)
  | recover
  | panic (v : AV)

inductive Kind where
  | q | a | w | c
  deriving DecidableEq

def kindB (b : Builtin) : Kind :=
  match b with
  | .append | .copy | .delete | .clear | .unsafeString => .w
  | .recover => .c
  | _ => .q

def kindOf (E : Env) (o : Op) : Kind :=
  match o with
  | .alloc _ | .box _ _ | .buildSlice _ _ _ | .makeMap _ _ | .makeSlice _ _ _ => .a
  | .store _ _ _ | .insert _ _ _ _ | .mapUpdate _ _ _ _ | .mapEntry _ _ _ | .entryStore _ _ _ _ | .range _ _ | .next _ _ => .w
  | .convert _ dst _ => match E.T.get dst with
    | some i => match i.desc with
      | .slice _ => .w
      | _ => .q
    | none => .q
  | .call c => match c.callee with
    | .builtin b => kindB b
    | _ => .c
  | .defer _ | .panic _ | .go _ | .send _ _ | .recv _ _ _ | .select _ _ | .makeChan _ _ => .c
  | _ => .q

def mapOf (h : Heap) (m : AV) : Option (List MapE) :=
  match m with
  | .mp n => match h.obj n with
    | some (.map es _) => some es
    | _ => none
  | .sc (.map none) => some []
  | _ => none

/-- Operations that leave the memory as it is. -/
def aopQ0 (E : Env) (tm : Tr AV) (h : Heap) (o : Op) : Option AV :=
  match o with
  | .move x => ev E.nG tm x
  | .assign x => ev E.nG tm x
  | .pick c a b => match ev E.nG tm c with
    | some (.sc (.bool true)) => ev E.nG tm a
    | some (.sc (.bool false)) => ev E.nG tm b
    | _ => none
  | .build t parts => match E.T.get t with
    | some i => match i.desc with
      | .struct fs => match fs.toList.all fun f => (sizeT E f.type).isSome with
        | true => match partsA E tm (fun k => match fs[k]? with
            | some f => some (f.offset, (sizeT E f.type).getD 0)
            | none => none) parts.toList with
          | some l => match fillA l i.zero with
            | some cs => some (.agg cs)
            | none => none
          | none => none
        | false => none
      | .array _ e => match sizeT E e with
        | some s => match partsA E tm (fun k => some (k * s, s)) parts.toList with
          | some l => match fillA l i.zero with
            | some cs => some (.agg cs)
            | none => none
          | none => none
        | none => none
      | _ => none
    | none => none
  | .load t a => match ev E.nG tm a with
    | some p => loadT E h t p
    | none => none
  | .nilCheck x => match ev E.nG tm x with
    | some (.ptr n o) => some (.ptr n o)
    | some (.fn (.func f) a b) => some (.fn (.func f) a b)
    | some (.ifc t v) => some (.ifc t v)
    | some (.yld n) => some (.yld n)
    | _ => none
  | .binOp op t x y _ => match ev E.nG tm x, ev E.nG tm y with
    | some a, some b => abin E h op t x y a b
    | _, _ => none
  | .unOp op _ x => match ev E.nG tm x with
    | some (.sc v) => pureSem (Op.unary op v)
    | _ => none
  | .convert src dst x => match ev E.nG tm x with
    | some v => convQ E h src dst v
    | none => none
  | .makeInterface t x => match ev E.nG tm x, E.T.get t with
    | some v, some i => match i.desc with
      | .interface _ => none
      | _ => some (.ifc t v)
    | _, _ => none
  | .makeFunc f first captured => match f with
    | .yield _ => none
    | f => match evs E.nG tm first.toList, evs E.nG tm captured.toList with
      | some a, some b => some (.fn f a b)
      | _, _ => none
  | .slice t x lo hi mx => match ev E.nG tm x, evO E.nG tm lo, evO E.nG tm hi, evO E.nG tm mx, E.T.get t with
    | some v, some lo, some hi, some mx, some i => match i.desc, v with
      | .string, .str l => match mx with
        | some _ => none
        | none => match bnds l.length l.length lo hi none with
          | some (l1, h1, _) => some (.str ((l.drop l1).take (h1 - l1)))
          | none => none
      | .slice e, .slc n off len cap => match sizeT E e with
        | some s => match cap with
          | some _ => slcA n off len cap s lo hi mx
          | none => match h.obj n with
            | some (.cells _ _ _ _ s' _) => match Nat.beq s' s with
              | true => slcA n off len cap s lo hi mx
              | false => none
            | _ => none
        | none => none
      | .slice e, .sc (.slice none 0 0) => match sizeT E e, bnds 0 0 lo hi mx with
        | some _, some _ => some (.sc (.slice none 0 0))
        | _, _ => none
      | .array n e, .ptr m off => match sizeT E e with
        | some s => slcA m off n (some n) s lo hi mx
        | none => none
      | _, _ => none
    | _, _, _, _, _ => none
  | .fieldAddr s x f => match ev E.nG tm x, fieldOf E s f with
    | some (.ptr n off), some fd => match sizeT E fd.type with
      | some (_ + 1) => some (.ptr n (off + fd.offset))
      | _ => none
    | _, _ => none
  | .field t x f => match ev E.nG tm x, fieldOf E t f with
    | some (.agg cs), some fd => partOf E fd.type cs fd.offset
    | _, _ => none
  | .indexAddr t x ix => match ev E.nG tm x, ev E.nG tm ix, E.T.get t with
    | some v, some iv, some i => match natOf iv, i.desc, v with
      | some k, .array len e, .ptr n off => match sizeT E e with
        | some s => match Nat.blt k len with
          | true => some (.ptr n (off + k * s))
          | false => none
        | none => none
      | some k, .slice e, .slc n off len _ => match sizeT E e with
        | some s => match Nat.blt k len with
          | true => some (.ptr n (off + k * s))
          | false => none
        | none => none
      | _, _, _ => none
    | _, _, _ => none
  | .index t x ix => match ev E.nG tm x, ev E.nG tm ix, E.T.get t with
    | some v, some iv, some i => match natOf iv, i.desc, v with
      | some k, .array len e, .agg cs => match sizeT E e with
        | some s => match Nat.blt k len with
          | true => partOf E e cs (k * s)
          | false => none
        | none => none
      | some k, .string, .str l => match lget l k with
        | some n => some (.sc (.int .u8 (.ofNat n)))
        | none => none
      | _, _, _ => none
    | _, _, _ => none
  | .lookup t x ix commaOk => match ev E.nG tm x, ev E.nG tm ix, E.T.get t with
    | some m, some k, some i => match i.desc, keyIn E i.desc k with
      | .map kt vt, true =>
        match mapOf h m with
        | none => none
        | some es => match mapFind E h kt k es, E.T.get vt with
          | some (some e), _ => some (match commaOk with
            | true => .tup [e.val, .sc (.bool true)]
            | false => e.val)
          | some none, some vi => match zeroA vi with
            | some z => some (match commaOk with
              | true => .tup [z, .sc (.bool false)]
              | false => z)
            | none => none
          | _, _ => none
      | _, _ => none
    | _, _, _ => none
  | .extract x ix => match ev E.nG tm x with
    | some (.tup vs) => lget vs ix
    | _ => none
  | .typeAssert x _ t commaOk => match ev E.nG tm x, E.T.get t with
    | some (.ifc u v), some i => match i.desc with
      | .interface _ => none
      | _ => if u = t then some (match commaOk with
          | true => .tup [v, .sc (.bool true)]
          | false => v)
        else match commaOk, zeroA i with
          | true, some z => some (.tup [z, .sc (.bool false)])
          | _, _ => none
    | some (.sc .nilIface), some i => match commaOk, zeroA i with
      | true, some z => some (.tup [z, .sc (.bool false)])
      | _, _ => none
    | _, _ => none
  | .call c => match evs E.nG tm c.args.toList with
    | none => none
    | some args => match c.callee with
      | .builtin b => builtinQ E h b c.argTypes args
      | _ => none
  | _ => none

def opQ_move (E : Env) (tm : Tr AV) (x : Operand) : Option AV :=
  ev E.nG tm x

def opQ_assign (E : Env) (tm : Tr AV) (x : Operand) : Option AV :=
  ev E.nG tm x

def opQ_pick (E : Env) (tm : Tr AV) (c : Operand) (a : Operand) (b : Operand) : Option AV :=
  match ev E.nG tm c with
  | some (.sc (.bool true)) => ev E.nG tm a
  | some (.sc (.bool false)) => ev E.nG tm b
  | _ => none

def opQ_build (E : Env) (tm : Tr AV) (t : TypeId) (parts : Array (Nat × Operand)) : Option AV :=
  match E.T.get t with
  | some i => match i.desc with
    | .struct fs => match fs.toList.all fun f => (sizeT E f.type).isSome with
      | true => match partsA E tm (fun k => match fs[k]? with
          | some f => some (f.offset, (sizeT E f.type).getD 0)
          | none => none) parts.toList with
        | some l => match fillA l i.zero with
          | some cs => some (.agg cs)
          | none => none
        | none => none
      | false => none
    | .array _ e => match sizeT E e with
      | some s => match partsA E tm (fun k => some (k * s, s)) parts.toList with
        | some l => match fillA l i.zero with
          | some cs => some (.agg cs)
          | none => none
        | none => none
      | none => none
    | _ => none
  | none => none

def opQ_load (E : Env) (tm : Tr AV) (h : Heap) (t : TypeId) (a : Operand) : Option AV :=
  match ev E.nG tm a with
  | some p => loadT E h t p
  | none => none

def opQ_nilCheck (E : Env) (tm : Tr AV) (x : Operand) : Option AV :=
  match ev E.nG tm x with
  | some (.ptr n o) => some (.ptr n o)
  | some (.fn (.func f) a b) => some (.fn (.func f) a b)
  | some (.ifc t v) => some (.ifc t v)
  | some (.yld n) => some (.yld n)
  | _ => none

def opQ_binOp (E : Env) (tm : Tr AV) (h : Heap) (op : BinOp) (t : TypeId) (x : Operand) (y : Operand) : Option AV :=
  match ev E.nG tm x, ev E.nG tm y with
  | some a, some b => abin E h op t x y a b
  | _, _ => none

def opQ_unOp (E : Env) (tm : Tr AV) (op : UnOp) (x : Operand) : Option AV :=
  match ev E.nG tm x with
  | some (.sc v) => pureSem (Op.unary op v)
  | _ => none

def opQ_convert (E : Env) (tm : Tr AV) (h : Heap) (src : TypeId) (dst : TypeId) (x : Operand) : Option AV :=
  match ev E.nG tm x with
  | some v => convQ E h src dst v
  | none => none

def opQ_makeInterface (E : Env) (tm : Tr AV) (t : TypeId) (x : Operand) : Option AV :=
  match ev E.nG tm x, E.T.get t with
  | some v, some i => match i.desc with
    | .interface _ => none
    | _ => some (.ifc t v)
  | _, _ => none

def opQ_makeFunc (E : Env) (tm : Tr AV) (f : Fn) (first : Array Operand) (captured : Array Operand) : Option AV :=
  match f with
  | .yield _ => none
  | f => match evs E.nG tm first.toList, evs E.nG tm captured.toList with
    | some a, some b => some (.fn f a b)
    | _, _ => none

def opQ_slice (E : Env) (tm : Tr AV) (h : Heap) (t : TypeId) (x : Operand) (lo : Option Operand) (hi : Option Operand) (mx : Option Operand) : Option AV :=
  match ev E.nG tm x, evO E.nG tm lo, evO E.nG tm hi, evO E.nG tm mx, E.T.get t with
  | some v, some lo, some hi, some mx, some i => match i.desc, v with
    | .string, .str l => match mx with
      | some _ => none
      | none => match bnds l.length l.length lo hi none with
        | some (l1, h1, _) => some (.str ((l.drop l1).take (h1 - l1)))
        | none => none
    | .slice e, .slc n off len cap => match sizeT E e with
      | some s => match cap with
        | some _ => slcA n off len cap s lo hi mx
        | none => match h.obj n with
          | some (.cells _ _ _ _ s' _) => match Nat.beq s' s with
            | true => slcA n off len cap s lo hi mx
            | false => none
          | _ => none
      | none => none
    | .slice e, .sc (.slice none 0 0) => match sizeT E e, bnds 0 0 lo hi mx with
      | some _, some _ => some (.sc (.slice none 0 0))
      | _, _ => none
    | .array n e, .ptr m off => match sizeT E e with
      | some s => slcA m off n (some n) s lo hi mx
      | none => none
    | _, _ => none
  | _, _, _, _, _ => none

def opQ_fieldAddr (E : Env) (tm : Tr AV) (s : TypeId) (x : Operand) (f : Nat) : Option AV :=
  match ev E.nG tm x, fieldOf E s f with
  | some (.ptr n off), some fd => match sizeT E fd.type with
    | some (_ + 1) => some (.ptr n (off + fd.offset))
    | _ => none
  | _, _ => none

def opQ_field (E : Env) (tm : Tr AV) (t : TypeId) (x : Operand) (f : Nat) : Option AV :=
  match ev E.nG tm x, fieldOf E t f with
  | some (.agg cs), some fd => partOf E fd.type cs fd.offset
  | _, _ => none

def opQ_indexAddr (E : Env) (tm : Tr AV) (t : TypeId) (x : Operand) (ix : Operand) : Option AV :=
  match ev E.nG tm x, ev E.nG tm ix, E.T.get t with
  | some v, some iv, some i => match natOf iv, i.desc, v with
    | some k, .array len e, .ptr n off => match sizeT E e with
      | some s => match Nat.blt k len with
        | true => some (.ptr n (off + k * s))
        | false => none
      | none => none
    | some k, .slice e, .slc n off len _ => match sizeT E e with
      | some s => match Nat.blt k len with
        | true => some (.ptr n (off + k * s))
        | false => none
      | none => none
    | _, _, _ => none
  | _, _, _ => none

def opQ_index (E : Env) (tm : Tr AV) (t : TypeId) (x : Operand) (ix : Operand) : Option AV :=
  match ev E.nG tm x, ev E.nG tm ix, E.T.get t with
  | some v, some iv, some i => match natOf iv, i.desc, v with
    | some k, .array len e, .agg cs => match sizeT E e with
      | some s => match Nat.blt k len with
        | true => partOf E e cs (k * s)
        | false => none
      | none => none
    | some k, .string, .str l => match lget l k with
      | some n => some (.sc (.int .u8 (.ofNat n)))
      | none => none
    | _, _, _ => none
  | _, _, _ => none

def opQ_lookup (E : Env) (tm : Tr AV) (h : Heap) (t : TypeId) (x : Operand) (ix : Operand) (commaOk : Bool) : Option AV :=
  match ev E.nG tm x, ev E.nG tm ix, E.T.get t with
  | some m, some k, some i => match i.desc, keyIn E i.desc k with
    | .map kt vt, true =>
      match mapOf h m with
      | none => none
      | some es => match mapFind E h kt k es, E.T.get vt with
        | some (some e), _ => some (match commaOk with
          | true => .tup [e.val, .sc (.bool true)]
          | false => e.val)
        | some none, some vi => match zeroA vi with
          | some z => some (match commaOk with
            | true => .tup [z, .sc (.bool false)]
            | false => z)
          | none => none
        | _, _ => none
    | _, _ => none
  | _, _, _ => none

def opQ_extract (E : Env) (tm : Tr AV) (x : Operand) (ix : Nat) : Option AV :=
  match ev E.nG tm x with
  | some (.tup vs) => lget vs ix
  | _ => none

def opQ_typeAssert (E : Env) (tm : Tr AV) (x : Operand) (t : TypeId) (commaOk : Bool) : Option AV :=
  match ev E.nG tm x, E.T.get t with
  | some (.ifc u v), some i => match i.desc with
    | .interface _ => none
    | _ => if u = t then some (match commaOk with
        | true => .tup [v, .sc (.bool true)]
        | false => v)
      else match commaOk, zeroA i with
        | true, some z => some (.tup [z, .sc (.bool false)])
        | _, _ => none
  | some (.sc .nilIface), some i => match commaOk, zeroA i with
    | true, some z => some (.tup [z, .sc (.bool false)])
    | _, _ => none
  | _, _ => none

def opQ_call (E : Env) (tm : Tr AV) (h : Heap) (c : Call) : Option AV :=
  match evs E.nG tm c.args.toList with
  | none => none
  | some args => match c.callee with
    | .builtin b => builtinQ E h b c.argTypes args
    | _ => none

/-- Operations that leave the memory as it is. -/
def aopQ (E : Env) (tm : Tr AV) (h : Heap) (o : Op) : Option AV :=
  match o with
  | .move x => opQ_move E tm x
  | .assign x => opQ_assign E tm x
  | .pick c a b => opQ_pick E tm c a b
  | .build t parts => opQ_build E tm t parts
  | .load t a => opQ_load E tm h t a
  | .nilCheck x => opQ_nilCheck E tm x
  | .binOp op t x y _ => opQ_binOp E tm h op t x y
  | .unOp op _ x => opQ_unOp E tm op x
  | .convert src dst x => opQ_convert E tm h src dst x
  | .makeInterface t x => opQ_makeInterface E tm t x
  | .makeFunc f first captured => opQ_makeFunc E tm f first captured
  | .slice t x lo hi mx => opQ_slice E tm h t x lo hi mx
  | .fieldAddr s x f => opQ_fieldAddr E tm s x f
  | .field t x f => opQ_field E tm t x f
  | .indexAddr t x ix => opQ_indexAddr E tm t x ix
  | .index t x ix => opQ_index E tm t x ix
  | .lookup t x ix commaOk => opQ_lookup E tm h t x ix commaOk
  | .extract x ix => opQ_extract E tm x ix
  | .typeAssert x _ t commaOk => opQ_typeAssert E tm x t commaOk
  | .call c => opQ_call E tm h c
  | _ => none

theorem aopQ_def {E : Env} {tm : Tr AV} {h : Heap} {o : Op} : aopQ E tm h o = aopQ0 E tm h o := by
  cases o <;> rfl

/-- Operations that make memory and do nothing else: the value, where n is the name of what is made; what is made. -/
def aopA0 (E : Env) (tm : Tr AV) (n : Nat) (o : Op) : Option (AV × AObj) :=
  match o with
  | .alloc e => match E.T.get e with
    | some i => some (.ptr n 0, .cells .nil i.size i.zero e i.size false)
    | none => none
  | .box e x => match ev E.nG tm x with
    | some v => match boxable v with
      | true => some (.ptr n 0, rowObj (cellsOf v) e (cellsOf v).length false)
      | false => none
    | none => none
  | .buildSlice t len parts => match E.T.get t with
    | some i => match i.desc with
      | .slice e => match E.T.get e with
        | some ei => match Nat.ble (len * ei.size) 16777216, partsA E tm (fun k => some (k * ei.size, ei.size)) parts.toList with
          | true, some l => match fillA l (rep len ei.zero) with
            | some cs => some (.slc n 0 len (some len), rowObj cs e ei.size false)
            | none => none
          | _, _ => none
        | none => none
      | _ => none
    | none => none
  | .makeMap _ r => match r with
    | none => some (.mp n, .map [] 0)
    | some _ => none
  | .makeSlice t l c => match ev E.nG tm l, ev E.nG tm c, E.T.get t with
    | some lv, some cv, some i => match natOf lv, natOf cv, i.desc with
      | some k, some m, .slice e => match E.T.get e with
        | some ei => match Nat.ble k m && Nat.ble m 1048576 && Nat.ble ei.bytes 1048576 with
          | true => some (.slc n 0 k (some m), .cells .nil (m * ei.size) ei.zero e ei.size false)
          | false => none
        | none => none
      | _, _, _ => none
    | _, _, _ => none
  | _ => none

def opA_alloc (E : Env) (n : Nat) (e : TypeId) : Option (AV × AObj) :=
  match E.T.get e with
  | some i => some (.ptr n 0, .cells .nil i.size i.zero e i.size false)
  | none => none

def opA_box (E : Env) (tm : Tr AV) (n : Nat) (e : TypeId) (x : Operand) : Option (AV × AObj) :=
  match ev E.nG tm x with
  | some v => match boxable v with
    | true => some (.ptr n 0, rowObj (cellsOf v) e (cellsOf v).length false)
    | false => none
  | none => none

def opA_buildSlice (E : Env) (tm : Tr AV) (n : Nat) (t : TypeId) (len : Nat) (parts : Array (Nat × Operand)) : Option (AV × AObj) :=
  match E.T.get t with
  | some i => match i.desc with
    | .slice e => match E.T.get e with
      | some ei => match Nat.ble (len * ei.size) 16777216, partsA E tm (fun k => some (k * ei.size, ei.size)) parts.toList with
        | true, some l => match fillA l (rep len ei.zero) with
          | some cs => some (.slc n 0 len (some len), rowObj cs e ei.size false)
          | none => none
        | _, _ => none
      | none => none
    | _ => none
  | none => none

def opA_makeMap (n : Nat) (r : Option Operand) : Option (AV × AObj) :=
  match r with
  | none => some (.mp n, .map [] 0)
  | some _ => none

def opA_makeSlice (E : Env) (tm : Tr AV) (n : Nat) (t : TypeId) (l : Operand) (c : Operand) : Option (AV × AObj) :=
  match ev E.nG tm l, ev E.nG tm c, E.T.get t with
  | some lv, some cv, some i => match natOf lv, natOf cv, i.desc with
    | some k, some m, .slice e => match E.T.get e with
      | some ei => match Nat.ble k m && Nat.ble m 1048576 && Nat.ble ei.bytes 1048576 with
        | true => some (.slc n 0 k (some m), .cells .nil (m * ei.size) ei.zero e ei.size false)
        | false => none
      | none => none
    | _, _, _ => none
  | _, _, _ => none

/-- Operations that make memory and do nothing else: the value, where n is the name of what is made; what is made. -/
def aopA (E : Env) (tm : Tr AV) (n : Nat) (o : Op) : Option (AV × AObj) :=
  match o with
  | .alloc e => opA_alloc E n e
  | .box e x => opA_box E tm n e x
  | .buildSlice t len parts => opA_buildSlice E tm n t len parts
  | .makeMap _ r => opA_makeMap n r
  | .makeSlice t l c => opA_makeSlice E tm n t l c
  | _ => none

theorem aopA_def {E : Env} {tm : Tr AV} {n : Nat} {o : Op} : aopA E tm n o = aopA0 E tm n o := by
  cases o <;> rfl

def appendA (E : Env) (h : Heap) (e : TypeId) (s : AV) (more : List AV) (m : Nat) : Option (AV × Heap) :=
  match E.T.get e with
  | none => none
  | some ei => match ei.size with
    | 0 => none
    | sz + 1 => match s with
      | .sc (.slice none 0 0) => match m with
        | 0 => some (s, h)
        | m + 1 => match Nat.ble (m + 1) 1048576 && Nat.ble ei.bytes 1048576 with
          | true => some (.slc h.next 0 (m + 1) none, h.new (rowObj more e (sz + 1) true))
          | false => none
      | .slc n off len (some k) => match Nat.ble (len + m) k with
        | true => match h.write n (off + len * (sz + 1)) more with
          | some h' => some (.slc n off (len + m) (some k), h')
          | none => none
        | false => match Nat.ble (len + m) 1048576 && Nat.ble ei.bytes 1048576, h.read n off (len * (sz + 1)) with
          | true, some old => some (.slc h.next 0 (len + m) none, h.new (rowObj (old ++ more) e (sz + 1) true))
          | _, _ => none
      | .slc n off len none =>
        match h.obj n with
        | some (.cells t size dflt e' s' _) =>
          match Nat.beq s' (sz + 1) && Nat.beq e' e with
          | false => none
          | true => match Nat.ble (off + (len + m) * (sz + 1)) size with
            | true => match h.write n (off + len * (sz + 1)) more with
              | some h' => some (.slc n off (len + m) none, h')
              | none => none
            | false => match Nat.ble (len + m) 1048576 && Nat.ble ei.bytes 1048576 && more.all simple, readCells t size dflt (len * (sz + 1)) off with
              | true, some old => some (.slc h.next 0 (len + m) none, (h.put n .dead).new (rowObj (old ++ more) e (sz + 1) true))
              | _, _ => none
        | _ => none
      | _ => none

/-- Builtins that write. -/
def builtinW (E : Env) (h : Heap) (b : Builtin) (argTypes : Array TypeId) (args : List AV) : Option (AV × Heap) :=
  match b, args with
  | .append, [s, x] => match argTypes[0]?, argTypes[1]? with
    | some t, some xt => match E.T.get t, E.T.get xt with
      | some i, some j => match i.desc, j.desc with
        | _, .int _ => none
        | .slice e, _ => match sizeT E e with
          | some sz => match srcCells h sz x with
            | some (cs, m) => appendA E h e s cs m
            | none => none
          | none => none
        | _, _ => none
      | _, _ => none
    | _, _ => none
  | .copy, [d, x] => match argTypes[0]? with
    | some t => match E.T.get t with
      | some i => match i.desc with
        | .slice e => match sizeT E e with
          | some sz => match srcCells h sz x, d with
            | some (cs, m), .slc n off len _ =>
              match h.write n off (cs.take (min m len * sz)) with
              | some h' => some (vI (min m len), h')
              | none => none
            | some (_, _), .sc (.slice none 0 _) => some (vI 0, h)
            | _, _ => none
          | none => none
        | _ => none
      | none => none
    | none => none
  | .unsafeString, [.sc (.pointer none), .sc (.int _ (.ofNat 0))] => match argTypes[0]? with
    | some _ => some (.str [], h)
    | none => none
  | .unsafeString, [.ptr n off, l] => match natOf l, argTypes[0]? with
    | some 0, some _ => some (.str [], h)
    | some (k + 1), some pt => match E.T.get pt, h.obj n with
      | some pi, some (.cells t size dflt e _ _) => match pi.desc, E.T.get e with
        | .pointer e', some ei => match ei.desc, ei.size with
          | .int .u8, 1 => if e = e' then match readCells t size dflt (k + 1) off with
              | some cs => match bytesOf cs, Nat.ble (k + 1) 1073741824 with
                | some bs, true => some (.str bs, h.put n .dead)
                | _, _ => none
              | none => none
            else none
          | _, _ => none
        | _, _ => none
      | _, _ => none
    | _, _ => none
  | .clear, [m] => match argTypes[0]? with
    | some t => match E.T.get t with
      | some i => match i.desc, m with
        | .map _ _, .mp n => match h.obj n with
          | some (.map _ clock) => some (.tup [], h.put n (.map [] clock))
          | _ => none
        | .map _ _, .sc (.map none) => some (.tup [], h)
        | _, _ => none
      | none => none
    | none => none
  | .delete, [m, k] => match argTypes[0]? with
    | some t => match E.T.get t with
      | some i => match i.desc, m, keyIn E i.desc k with
        | .map kt _, .mp n, true => match h.obj n with
          | some (.map es clock) => match mapDel E h kt k es with
            | some es' => some (.tup [], h.put n (.map es' clock))
            | none => none
          | _ => none
        | _, _, _ => none
      | none => none
    | none => none
  | _, _ => none

/-- Operations that write, and call nothing. -/
def aopW0 (E : Env) (tm : Tr AV) (h : Heap) (o : Op) : Option (AV × Heap) :=
  match o with
  | .store t a x => match ev E.nG tm a, ev E.nG tm x, sizeT E t with
    | some (.ptr n off), some v, some s => match boxable v && Nat.beq (cellsOf v).length s with
      | true => match h.write n off (cellsOf v) with
        | some h' => some (.tup [], h')
        | none => none
      | false => none
    | _, _, _ => none
  | .convert src dst x => match ev E.nG tm x, E.T.get src, E.T.get dst with
    | some v, some i, some j => match i.desc, j.desc, v with
      | .string, .slice e, .str l => match E.T.get e with
        | some ei => match ei.desc, ei.size with
          | .int .u8, 1 => some (.slc h.next 0 l.length none, h.new (rowObj (ofBytes l) e 1 true))
          | .int .i32, 1 => some (.slc h.next 0 (toRunes l).length none, h.new (rowObj (toRunes l) e 1 true))
          | _, _ => none
        | none => none
      | .slice _, .slice e, .slc n off len cap => match E.T.get e with
        | some ei => match ei.desc with
          | .int .u8 => match h.obj n with
            | some (.cells _ _ _ _ _ _) => if src = dst then some (.slc n off len cap, h) else none
            | _ => none
          | _ => none
        | none => none
      | _, _, _ => none
    | _, _, _ => none
  | .mapUpdate t m k x => match ev E.nG tm m, ev E.nG tm k, ev E.nG tm x, E.T.get t with
    | some (.mp n), some kv, some v, some i => match i.desc, h.obj n, keyIn E i.desc kv with
      | .map kt _, some (.map es clock), true => match mapPut E h kt kv v clock es with
          | some (es', c) => some (.tup [], h.put n (.map es' c))
          | none => none
      | _, _, _ => none
    | _, _, _, _ => none
  | .insert t m k x => match ev E.nG tm m, ev E.nG tm k, ev E.nG tm x, E.T.get t with
    | some (.mp n), some kv, some v, some i => match i.desc, h.obj n, keyIn E i.desc kv with
      | .map kt _, some (.map es clock), true => match mapPut E h kt kv v clock es with
          | some (es', c) => some (.tup [], h.put n (.map es' c))
          | none => none
      | _, _, _ => none
    | _, _, _, _ => none
  | .mapEntry t m k => match ev E.nG tm m, ev E.nG tm k, E.T.get t with
    | some (.mp n), some kv, some i => match i.desc, h.obj n, keyIn E i.desc kv with
      | .map kt vt, some (.map es clock), true => match mapFind E h kt kv es, E.T.get vt with
          | some (some e), _ => match avEq kv e.key with
            | true => some (.tup [e.val, vI e.born], h)
            | false => none
          | some none, some vi => match zeroA vi with
            | some z => some (.tup [z, vI clock], h.put n (.map (es ++ [⟨kv, z, clock⟩]) (clock + 1)))
            | none => none
          | _, _ => none
      | _, _, _ => none
    | _, _, _ => none
  | .entryStore _ m s x => match ev E.nG tm m, ev E.nG tm s, ev E.nG tm x with
    | some (.mp n), some sv, some v => match h.obj n, natOf sv with
      | some (.map es clock), some b => match entryPut b v es with
        | some es' => some (.tup [], h.put n (.map es' clock))
        | none => none
      | _, _ => none
    | _, _, _ => none
  | .range t x => match ev E.nG tm x, E.T.get t with
    | some (.str l), some i => match i.desc with
      | .string => some (.ptr h.next 0, h.new (.siter l 0))
      | _ => none
    | _, _ => none
  | .next it isString => match ev E.nG tm it, isString with
    | some (.ptr n 0), true => match h.obj n with
      | some (.siter s pos) => match Nat.blt pos s.length with
        | true => some (.tup [.sc (.bool true), vI pos, .sc (.int .i32 (.ofNat (Utf8.decode (toB s) pos).1))], h.put n (.siter s (pos + (Utf8.decode (toB s) pos).2)))
        | false => some (.tup [.sc (.bool false)], h)
      | _ => none
    | _, _ => none
  | .call c => match evs E.nG tm c.args.toList with
    | none => none
    | some args => match c.callee with
      | .builtin b => builtinW E h b c.argTypes args
      | _ => none
  | _ => none

def opW_store (E : Env) (tm : Tr AV) (h : Heap) (t : TypeId) (a : Operand) (x : Operand) : Option (AV × Heap) :=
  match ev E.nG tm a, ev E.nG tm x, sizeT E t with
  | some (.ptr n off), some v, some s => match boxable v && Nat.beq (cellsOf v).length s with
    | true => match h.write n off (cellsOf v) with
      | some h' => some (.tup [], h')
      | none => none
    | false => none
  | _, _, _ => none

def opW_convert (E : Env) (tm : Tr AV) (h : Heap) (src : TypeId) (dst : TypeId) (x : Operand) : Option (AV × Heap) :=
  match ev E.nG tm x, E.T.get src, E.T.get dst with
  | some v, some i, some j => match i.desc, j.desc, v with
    | .string, .slice e, .str l => match E.T.get e with
      | some ei => match ei.desc, ei.size with
        | .int .u8, 1 => some (.slc h.next 0 l.length none, h.new (rowObj (ofBytes l) e 1 true))
        | .int .i32, 1 => some (.slc h.next 0 (toRunes l).length none, h.new (rowObj (toRunes l) e 1 true))
        | _, _ => none
      | none => none
    | .slice _, .slice e, .slc n off len cap => match E.T.get e with
      | some ei => match ei.desc with
        | .int .u8 => match h.obj n with
          | some (.cells _ _ _ _ _ _) => if src = dst then some (.slc n off len cap, h) else none
          | _ => none
        | _ => none
      | none => none
    | _, _, _ => none
  | _, _, _ => none

def opW_mapUpdate (E : Env) (tm : Tr AV) (h : Heap) (t : TypeId) (m : Operand) (k : Operand) (x : Operand) : Option (AV × Heap) :=
  match ev E.nG tm m, ev E.nG tm k, ev E.nG tm x, E.T.get t with
  | some (.mp n), some kv, some v, some i => match i.desc, h.obj n, keyIn E i.desc kv with
    | .map kt _, some (.map es clock), true => match mapPut E h kt kv v clock es with
        | some (es', c) => some (.tup [], h.put n (.map es' c))
        | none => none
    | _, _, _ => none
  | _, _, _, _ => none

def opW_insert (E : Env) (tm : Tr AV) (h : Heap) (t : TypeId) (m : Operand) (k : Operand) (x : Operand) : Option (AV × Heap) :=
  match ev E.nG tm m, ev E.nG tm k, ev E.nG tm x, E.T.get t with
  | some (.mp n), some kv, some v, some i => match i.desc, h.obj n, keyIn E i.desc kv with
    | .map kt _, some (.map es clock), true => match mapPut E h kt kv v clock es with
        | some (es', c) => some (.tup [], h.put n (.map es' c))
        | none => none
    | _, _, _ => none
  | _, _, _, _ => none

def opW_mapEntry (E : Env) (tm : Tr AV) (h : Heap) (t : TypeId) (m : Operand) (k : Operand) : Option (AV × Heap) :=
  match ev E.nG tm m, ev E.nG tm k, E.T.get t with
  | some (.mp n), some kv, some i => match i.desc, h.obj n, keyIn E i.desc kv with
    | .map kt vt, some (.map es clock), true => match mapFind E h kt kv es, E.T.get vt with
        | some (some e), _ => match avEq kv e.key with
          | true => some (.tup [e.val, vI e.born], h)
          | false => none
        | some none, some vi => match zeroA vi with
          | some z => some (.tup [z, vI clock], h.put n (.map (es ++ [⟨kv, z, clock⟩]) (clock + 1)))
          | none => none
        | _, _ => none
    | _, _, _ => none
  | _, _, _ => none

def opW_entryStore (E : Env) (tm : Tr AV) (h : Heap) (m : Operand) (s : Operand) (x : Operand) : Option (AV × Heap) :=
  match ev E.nG tm m, ev E.nG tm s, ev E.nG tm x with
  | some (.mp n), some sv, some v => match h.obj n, natOf sv with
    | some (.map es clock), some b => match entryPut b v es with
      | some es' => some (.tup [], h.put n (.map es' clock))
      | none => none
    | _, _ => none
  | _, _, _ => none

def opW_range (E : Env) (tm : Tr AV) (h : Heap) (t : TypeId) (x : Operand) : Option (AV × Heap) :=
  match ev E.nG tm x, E.T.get t with
  | some (.str l), some i => match i.desc with
    | .string => some (.ptr h.next 0, h.new (.siter l 0))
    | _ => none
  | _, _ => none

def opW_next (E : Env) (tm : Tr AV) (h : Heap) (it : Operand) (isString : Bool) : Option (AV × Heap) :=
  match ev E.nG tm it, isString with
  | some (.ptr n 0), true => match h.obj n with
    | some (.siter s pos) => match Nat.blt pos s.length with
      | true => some (.tup [.sc (.bool true), vI pos, .sc (.int .i32 (.ofNat (Utf8.decode (toB s) pos).1))], h.put n (.siter s (pos + (Utf8.decode (toB s) pos).2)))
      | false => some (.tup [.sc (.bool false)], h)
    | _ => none
  | _, _ => none

def opW_call (E : Env) (tm : Tr AV) (h : Heap) (c : Call) : Option (AV × Heap) :=
  match evs E.nG tm c.args.toList with
  | none => none
  | some args => match c.callee with
    | .builtin b => builtinW E h b c.argTypes args
    | _ => none

/-- Operations that write, and call nothing. -/
def aopW (E : Env) (tm : Tr AV) (h : Heap) (o : Op) : Option (AV × Heap) :=
  match o with
  | .store t a x => opW_store E tm h t a x
  | .convert src dst x => opW_convert E tm h src dst x
  | .mapUpdate t m k x => opW_mapUpdate E tm h t m k x
  | .insert t m k x => opW_insert E tm h t m k x
  | .mapEntry t m k => opW_mapEntry E tm h t m k
  | .entryStore _ m s x => opW_entryStore E tm h m s x
  | .range t x => opW_range E tm h t x
  | .next it isString => opW_next E tm h it isString
  | .call c => opW_call E tm h c
  | _ => none

theorem aopW_def {E : Env} {tm : Tr AV} {h : Heap} {o : Op} : aopW E tm h o = aopW0 E tm h o := by
  cases o <;> rfl

/-- Calls and their like. -/
def aopC0 (E : Env) (tm : Tr AV) (o : Op) : Option Out :=
  match o with
  | .panic x => match ev E.nG tm x with
    | some (.ifc t v) => some (.panic (.ifc t v))
    | _ => none
  | .defer c => match evs E.nG tm c.args.toList, c.callee with
    | some args, .value f => match ev E.nG tm f with
      | some (.fn (.func g) first captured) => match E.F.get g with
        | some fn => match fn.body with
          | some _ => some (.defer (.call g (first ++ args ++ captured)))
          | none => none
        | none => none
      | _ => none
    | _, _ => none
  | .call c => match evs E.nG tm c.args.toList with
    | none => none
    | some args => match c.callee with
      | .builtin .recover => some .recover
      | .value f => match ev E.nG tm f with
        | some (.fn (.func g) first captured) => match E.F.get g with
          | some fn => match fn.body with
            | some _ => some (.enter g (first ++ args ++ captured))
            | none => match externA fn.name fn.origin (first ++ args ++ captured) with
              | some v => some (.val v)
              | none => none
          | none => none
        | some (.yld n) => some (.round n args)
        | _ => none
      | _ => none
  | _ => none

def opC_panic (E : Env) (tm : Tr AV) (x : Operand) : Option Out :=
  match ev E.nG tm x with
  | some (.ifc t v) => some (.panic (.ifc t v))
  | _ => none

def opC_defer (E : Env) (tm : Tr AV) (c : Call) : Option Out :=
  match evs E.nG tm c.args.toList, c.callee with
  | some args, .value f => match ev E.nG tm f with
    | some (.fn (.func g) first captured) => match E.F.get g with
      | some fn => match fn.body with
        | some _ => some (.defer (.call g (first ++ args ++ captured)))
        | none => none
      | none => none
    | _ => none
  | _, _ => none

def opC_call (E : Env) (tm : Tr AV) (c : Call) : Option Out :=
  match evs E.nG tm c.args.toList with
  | none => none
  | some args => match c.callee with
    | .builtin .recover => some .recover
    | .value f => match ev E.nG tm f with
      | some (.fn (.func g) first captured) => match E.F.get g with
        | some fn => match fn.body with
          | some _ => some (.enter g (first ++ args ++ captured))
          | none => match externA fn.name fn.origin (first ++ args ++ captured) with
            | some v => some (.val v)
            | none => none
        | none => none
      | some (.yld n) => some (.round n args)
      | _ => none
    | _ => none

/-- Calls and their like. -/
def aopC (E : Env) (tm : Tr AV) (o : Op) : Option Out :=
  match o with
  | .panic x => opC_panic E tm x
  | .defer c => opC_defer E tm c
  | .call c => opC_call E tm c
  | _ => none

theorem aopC_def {E : Env} {tm : Tr AV} {o : Op} : aopC E tm o = aopC0 E tm o := by
  cases o <;> rfl

inductive Step1 where
  | val (v : AV) (h : Heap)
  | out (o : Out)

/-- One operation. -/
def aop (E : Env) (tm : Tr AV) (h : Heap) (o : Op) : Option Step1 :=
  match kindOf E o with
  | .q => match aopQ E tm h o with
    | some v => some (.val v h)
    | none => none
  | .a => match aopA E tm h.next o with
    | some (v, ob) => some (.val v (h.new ob))
    | none => none
  | .w => match aopW E tm h o with
    | some (v, h') => some (.val v h')
    | none => none
  | .c => match aopC E tm o with
    | some (.val v) => some (.val v h)
    | some out => some (.out out)
    | none => none

/-- What a guard asks. -/
def wantedA (all : List Oper) (tm : Tr AV) (o : Oper) : Option Bool :=
  match o.guard with
  | none => some true
  | some (j, w) => match lget all j with
    | some p => match p.dst with
      | some d => match tm.get d with
        | some (.sc (.bool b)) => some (b == w)
        | some (.tup []) => some false
        | _ => none
      | none => some false
    | none => some false

def putT (sz : Nat) (tm : Tr AV) (dst : Option Tmp) (v : AV) : Option (Tr AV) :=
  match dst with
  | some d => match Nat.blt d sz with
    | true => some (tm.set d v)
    | false => none
  | none => some tm

inductive ROut where
  | done (tm : Tr AV) (h : Heap)
  | stop (rest : List Oper) (tm : Tr AV) (h : Heap) (o : Out)

/-- The operations of a region in their order, as far as the next call. -/
def runOps (E : Env) (sz : Nat) (all : List Oper) : List Oper → Tr AV → Heap → Option ROut
  | [], tm, h => some (.done tm h)
  | o :: rest, tm, h =>
    match wantedA all tm o with
    | none => none
    | some false => match putT sz tm o.dst (.tup []) with
      | some tm' => runOps E sz all rest tm' h
      | none => none
    | some true => match aop E tm h o.op with
      | none => none
      | some (.val v h') => match putT sz tm o.dst v with
        | some tm' => runOps E sz all rest tm' h'
        | none => none
      | some (.out out) => some (.stop (o :: rest) tm h out)

end Go.Eng

/- The engine: regions whose order is drawn. -/
namespace Go.Eng

def isW (E : Env) (o : Op) : Bool :=
  match kindOf E o with
  | .w | .c => true
  | _ => false

def isA (E : Env) (o : Op) : Bool :=
  match kindOf E o with
  | .a => true
  | _ => false

/-- Whether what it answers hangs on the memory. -/
def isR (o : Op) : Bool :=
  match o with
  | .load _ _ | .lookup _ _ _ _ | .convert _ _ _ | .slice _ _ _ _ _ | .call _ => true
  | .binOp op _ _ _ _ => isCmp op
  | _ => false

/-- The operations that must lie ahead, in whatever order, as bits; ms: those of the elder ones. -/
def maskOf (ms : List Nat) (es : List Edge) : Nat :=
  match es with
  | [] => 0
  | e :: es => match Region.binds .any e with
    | true => match lget ms e.on with
      | some m => Nat.lor (Nat.lor (2 ^ e.on) m) (maskOf ms es)
      | none => maskOf ms es
    | false => maskOf ms es

def masksGo (acc : List Nat) : List Oper → List Nat
  | [] => acc
  | o :: os => masksGo (acc ++ [maskOf acc o.after.toList]) os

def has (m i : Nat) : Bool := Nat.testBit m i

/-- The temporaries that an operation looks at (its guard's among them). -/
def looks (all : List Oper) (o : Oper) : List Tmp :=
  (o.op.operands.toList.filterMap fun | .tmp t => some t | _ => none) ++ (match o.guard with
    | some (j, _) => match lget all j with
      | some g => g.dst.toList
      | none => []
    | none => [])

/-- An operation in the engine's own order: its place, itself, its mask, what it looks at, whether it writes. -/
structure SI where
  i : Nat
  o : Oper
  m : Nat
  lk : List Tmp
  w : Bool

/-- Each one lies behind the one ahead of it. -/
def chain : List SI → Bool
  | [] => true
  | a :: l => (match l with
    | [] => true
    | b :: _ => has b.m a.i) && chain l

def hiOf (i : Nat) (k : Nat) : List SI → Nat
  | [] => k
  | a :: l => match has a.m i with
    | true => k
    | false => hiOf i (k + 1) l

/-- The order in which the region is run: each writer behind all that may stand ahead of it. -/
def sched (ws : List SI) : Nat → List SI → List SI → List SI
  | k, [], qs => qs.filter fun s => Nat.beq (hiOf s.i 1 ws) k
  | k, w :: l, qs => (qs.filter fun s => Nat.beq (hiOf s.i 1 ws) k) ++ w :: sched ws (k + 1) l qs

def isStore (o : Op) : Bool :=
  match o with
  | .store _ _ _ => true
  | _ => false

/-- The writers, but for the stores at their end if these lie in no order. -/
def parted (ws : List SI) : List SI × List SI :=
  match chain ws with
  | true => (ws, [])
  | false => ((ws.reverse.dropWhile fun a => isStore a.o.op).reverse, (ws.reverse.takeWhile fun a => isStore a.o.op).reverse)

structure Plan where
  run : List SI
  tail : List SI

def zipI (E : Env) (all : List Oper) (i : Nat) : List Oper → List Nat → List SI
  | o :: os, m :: ms => ⟨i, o, m, looks all o, isW E o.op⟩ :: zipI E all (i + 1) os ms
  | _, _ => []

def planOf (E : Env) (all : List Oper) : Plan :=
  let l := zipI E all 0 all (masksGo [] all)
  let p := parted (l.filter fun a => a.w)
  ⟨sched p.1 1 p.1 (l.filter fun a => !a.w), p.2⟩

/-- Two of them, the first one first in the engine's order: if one of them writes what the other one looks at, they lie in that order; they don't write the same. -/
def pairOk (x y : SI) : Bool :=
  !Nat.beq x.i y.i && (match x.o.dst with
    | none => true
    | some d => (match y.o.dst with
      | some e => !Nat.beq d e
      | none => true) && (has y.m x.i || !(y.lk.any (Nat.beq d)))) && (match y.o.dst with
    | none => true
    | some d => has y.m x.i || !(x.lk.any (Nat.beq d)))

def pairsOk : List SI → Bool
  | [] => true
  | x :: l => l.all (pairOk x) && pairsOk l

def nextW : List SI → Option SI
  | [] => none
  | x :: l => match x.w with
    | true => some x
    | false => nextW l

/-- Each one lies ahead of the next writer. -/
def chainOk : List SI → Bool
  | [] => true
  | x :: l => (match nextW l with
    | some w => has w.m x.i
    | none => true) && chainOk l

def edgesOk (i : Nat) : List Oper → Bool
  | [] => true
  | o :: os => (o.after.toList.all fun e => !Region.binds .any e || Nat.blt e.on i) && edgesOk (i + 1) os

def coverOk (l : List SI) : Nat → Bool
  | 0 => true
  | n + 1 => (l.any fun s => Nat.beq s.i n) && coverOk l n

def tailOk (run tail : List SI) : Bool :=
  tail.all fun a => isStore a.o.op && a.o.guard.isNone && a.o.dst.isNone && run.all fun b => has a.m b.i || !(b.w || isR b.o.op)

def planOk (all : List Oper) (p : Plan) : Bool :=
  edgesOk 0 all && (coverOk (p.run ++ p.tail) all.length && (pairsOk (p.run ++ p.tail) && (chainOk p.run && tailOk p.run p.tail)))

/-- The memories ahead of the writers, the last one first: a reader must answer the same at each one at which it may be met. -/
def backOk (E : Env) (tm : Tr AV) (o : Op) (v : AV) (m : Nat) : List (Nat × Heap) → Bool
  | [] => true
  | a :: l => match has m a.1 with
    | true => true
    | false => match aopQ E tm a.2 o with
      | some u => avEq u v && backOk E tm o v m l
      | none => false

inductive DOut where
  | done (tm : Tr AV) (h : Heap)
  | pan (i : Nat) (chain : List (AV × Bool)) (h : Heap)

/-- One that writes nothing; g: the memory behind the last writer; hs: the memories ahead of the writers, the last one first. -/
def stepQ (E : Env) (sz : Nat) (all : List Oper) (hs : List (Nat × Heap)) (g : Heap) (s : SI) (tm : Tr AV) (h : Heap) : Option (Tr AV × Heap) :=
  match wantedA all tm s.o with
  | none => none
  | some false => match putT sz tm s.o.dst (.tup []) with
    | some tm' => some (tm', h)
    | none => none
  | some true => match kindOf E s.o.op with
    | .q => match aopQ E tm g s.o.op with
      | some v => match isR s.o.op with
        | true => match backOk E tm s.o.op v s.m hs with
          | true => match putT sz tm s.o.dst v with
            | some tm' => some (tm', h)
            | none => none
          | false => none
        | false => match putT sz tm s.o.dst v with
          | some tm' => some (tm', h)
          | none => none
      | none => none
    | .a => match aopA E tm h.next s.o.op with
      | some (v, ob) => match putT sz tm s.o.dst v with
        | some tm' => some (tm', h.new ob)
        | none => none
      | none => none
    | _ => none

inductive WOut where
  | next (tm : Tr AV) (h : Heap)
  | pan (chain : List (AV × Bool)) (h : Heap)

/-- One that writes. -/
def stepW (E : Env) (self : Out → Heap → Option AEnd) (sz : Nat) (all : List Oper) (s : SI) (tm : Tr AV) (h : Heap) : Option WOut :=
  match wantedA all tm s.o with
  | none => none
  | some false => match putT sz tm s.o.dst (.tup []) with
    | some tm' => some (.next tm' h)
    | none => none
  | some true => match kindOf E s.o.op with
    | .w => match aopW E tm h s.o.op with
      | some (v, h') => match putT sz tm s.o.dst v with
        | some tm' => some (.next tm' h')
        | none => none
      | none => none
    | .c => match aopC E tm s.o.op with
      | some (.val v) => match putT sz tm s.o.dst v with
        | some tm' => some (.next tm' h)
        | none => none
      | some out => match self out h with
        | some (.ret v h') => match putT sz tm s.o.dst v with
          | some tm' => some (.next tm' h')
          | none => none
        | some (.pan c h') => some (.pan c h')
        | none => none
      | none => none
    | _ => none

def runQ (E : Env) (sz : Nat) (all : List Oper) (hs : List (Nat × Heap)) (g : Heap) : List SI → Tr AV → Heap → Option (Tr AV × Heap)
  | [], tm, h => some (tm, h)
  | s :: l, tm, h => match s.w with
    | true => none
    | false => match stepQ E sz all hs g s tm h with
      | some (tm', h') => runQ E sz all hs g l tm' h'
      | none => none

/-- All but the tail. -/
def runD (E : Env) (self : Out → Heap → Option AEnd) (sz : Nat) (all : List Oper) : List SI → Tr AV → Heap → Heap → List (Nat × Heap) → Option DOut
  | [], tm, _, h, _ => some (.done tm h)
  | s :: l, tm, g, h, hs => match s.w with
    | false => match stepQ E sz all hs g s tm h with
      | some (tm', h') => runD E self sz all l tm' g h' hs
      | none => none
    | true => match stepW E self sz all s tm h with
      | some (.next tm' h') => match Nat.ble h.next h'.next with
        | true => runD E self sz all l tm' h' h' ((s.i, g) :: hs)
        | false => none
      | some (.pan c h') => match runQ E sz all hs g (l.filter fun b => !has b.m s.i) tm h with
        | some _ => some (.pan s.i c h')
        | none => none
      | none => none

def target (E : Env) (tm : Tr AV) (o : Op) : Option (Nat × Nat × Nat) :=
  match o with
  | .store _ a x => match ev E.nG tm a, ev E.nG tm x with
    | some (.ptr n off), some v => some (n, off, (cellsOf v).length)
    | _, _ => none
  | _ => none

def apart (a b : Nat × Nat × Nat) : Bool :=
  !Nat.beq a.1 b.1 || Nat.ble (a.2.1 + a.2.2) b.2.1 || Nat.ble (b.2.1 + b.2.2) a.2.1

structure Done where
  i : Nat
  t : Nat × Nat × Nat

/-- The stores at the end, that lie in no order: each two of them in an order, or to places apart. -/
def runTail (E : Env) (tm : Tr AV) : List SI → List Done → Heap → Option Heap
  | [], _, h => some h
  | s :: l, done, h => match s.o.guard, s.o.dst, target E tm s.o.op, aopW E tm h s.o.op with
    | none, none, some t, some (_, h') =>
      match done.all fun d => has s.m d.i || apart t d.t with
      | true => runTail E tm l (⟨s.i, t⟩ :: done) h'
      | false => none
    | _, _, _, _ => none

def forget (sz : Nat) (tm : Tr AV) : List Oper → Option (Tr AV)
  | [] => some tm
  | o :: os => match putT sz tm o.dst .any with
    | some tm' => forget sz tm' os
    | none => none

def drawn (E : Env) (self : Out → Heap → Option AEnd) (sz : Nat) (all : List Oper) (tm : Tr AV) (h : Heap) : Option (Tr AV × Heap × Option (List (AV × Bool))) :=
  match planOk all (planOf E all) with
  | true => match runD E self sz all (planOf E all).run tm h h [] with
    | some (.done tm' h') => match runTail E tm' (planOf E all).tail [] h' with
      | some h'' => some (tm', h'', none)
      | none => none
    | some (.pan i c h') => match (planOf E all).tail.all fun b => has b.m i with
      | true => match forget sz tm all with
        | some tm' => some (tm', h', some c)
        | none => none
      | false => none
    | none => none
  | false => none

end Go.Eng

/- The engine: frames, steps, runs. -/
namespace Go.Eng

inductive AItem where
  | code (c : Code)
  | inBlock (id : Nat)
  | inLoop (body : Code)
  | inScope (body : Code)
  | ops (all rest : List Oper)
  | inRange (n : Nat)
  | endRange (n : Nat)
  | beginRound

inductive AMode where
  | run
  | ret
  | pan (chain : List (AV × Bool))

structure AFrame where
  fn : FuncId
  tm : Tr AV
  sz : Nat
  todo : List AItem
  ds : List ADef
  mode : AMode
  dfr : Bool
  rnd : Option Nat

structure Cfg where
  fs : List AFrame
  h : Heap
  fin : Option AV

def aexitTo (id : Nat) : List AItem → Option (List AItem)
  | [] => none
  | x :: k => match x with
    | .inBlock id' => match Nat.beq id' id with
      | true => some k
      | false => aexitTo id k
    | _ => aexitTo id k

def agotoIn (l : Nat) : List AItem → Option (List AItem)
  | [] => none
  | x :: k => match x with
    | .inScope body => match findLabel body l with
      | some rest => some (.code rest :: .inScope body :: k)
      | none => agotoIn l k
    | _ => agotoIn l k

def setArgs (i : Nat) : List AV → Tr AV → Tr AV
  | [], t => t
  | v :: vs, t => setArgs (i + 1) vs (t.set i v)

def enterA (E : Env) (f : FuncId) (args : List AV) : Option AFrame :=
  match E.F.get f with
  | some fn => match fn.body with
    | some c => some ⟨f, setArgs 0 args .nil, max fn.ntmps args.length, [.code c], [], .run, false, none⟩
    | none => none
  | none => none

def finishA (fr : AFrame) (v : AV) : Option AFrame :=
  match fr.mode with
  | .run => match fr.todo with
    | .ops all (o :: rest) :: k => match putT fr.sz fr.tm o.dst v with
      | some tm => some { fr with tm := tm, todo := .ops all rest :: k }
      | none => none
    | .inRange l :: k => some { fr with todo := .endRange l :: k }
    | _ => none
  | _ => none

/-- The frame on top ends with a value. -/
def doRet (fs : List AFrame) (h : Heap) (v : AV) : Option Cfg :=
  match fs with
  | c :: cs => match finishA c v with
    | some c' => some ⟨c' :: cs, h, none⟩
    | none => none
  | [] => some ⟨[], h, some v⟩

def resA (E : Env) (h : Heap) (tm : Tr AV) : List ResultVar → Option (List AV)
  | [] => some []
  | r :: rs => match (match r with
      | .tmp t => tm.get t
      | .cell a t => match tm.get a with
        | some p => loadT E h t p
        | none => none) with
    | some v => match resA E h tm rs with
      | some vs => some (v :: vs)
      | none => none
    | none => none

def retA (E : Env) (h : Heap) (fr : AFrame) : Option AV :=
  match E.F.get fr.fn with
  | some fn => match resA E h fr.tm fn.results.toList with
    | some [v] => some v
    | some vs => some (.tup vs)
    | none => none
  | none => none

def setParams (sz : Nat) : List (Tmp × AV) → Tr AV → Option (Tr AV)
  | [], t => some t
  | (p, a) :: l, t => match putT sz t (some p) a with
    | some t' => setParams sz l t'
    | none => none

def roundA (h : Heap) (l : Nat) (args : List AV) : Option AFrame :=
  match h.obj l with
  | some (.loop r) => match Nat.beq args.length r.params.size with
    | true => match setParams r.sz (r.params.toList.zip args) r.tm with
      | some tm => some ⟨r.fn, tm, r.sz, [.code r.assign, .beginRound, .code r.body], [], .run, false, some l⟩
      | none => none
    | false => none
  | _ => none

def stOf (jump : Option Code) : LoopState :=
  match jump with
  | none => .ready
  | some _ => .done

def jumpA (fr : AFrame) (cs : List AFrame) (h : Heap) (jump : Option Code) : Option Cfg :=
  match fr.rnd with
  | none => match jump with
    | none => some ⟨{ fr with mode := .ret } :: cs, h, none⟩
    | some .ret => some ⟨{ fr with mode := .ret } :: cs, h, none⟩
    | _ => none
  | some l => match h.obj l with
    | some (.loop r) => match fr.dfr with
      | false => doRet cs (h.put l (.loop { r with state := stOf jump, pending := jump })) (.sc (.bool jump.isNone))
      | true => none
    | _ => none

def raiseA (fr : AFrame) (vs : List (AV × Bool)) : AFrame :=
  match fr.mode with
  | .pan chain => { fr with mode := .pan (vs ++ chain) }
  | _ => { fr with mode := .pan vs }

/-- The next of the deferred calls. -/
def unwindA (E : Env) (fr : AFrame) (cs : List AFrame) (h : Heap) (d : ADef) (ds : List ADef) : Option Cfg :=
  match d with
  | .mark n => match h.obj n with
    | some (.deferred []) => some ⟨{ fr with ds := ds } :: cs, h.put n .dead, none⟩
    | _ => none
  | .call g args => match enterA E g args with
    | some fr' => some ⟨{ fr' with dfr := true } :: { fr with ds := ds } :: cs, h, none⟩
    | none => none

/-- A frame has come to its end. -/
def leaveA (fr : AFrame) (cs : List AFrame) (h : Heap) (v : AV) : Option Cfg :=
  match cs with
  | [] => none
  | c :: cs => match fr.dfr with
    | false => doRet (c :: cs) h v
    | true => match c.mode with
      | .pan ((_, true) :: _) => some ⟨{ c with mode := .ret } :: cs, h, none⟩
      | _ => some ⟨c :: cs, h, none⟩

/-- recover(). -/
def recoverA (fr : AFrame) (cs : List AFrame) (h : Heap) : Option Cfg :=
  match fr.rnd with
  | some _ => none
  | none => match fr.dfr, cs with
    | true, [] => none
    | true, c :: cs' => match c.mode with
      | .pan ((v, false) :: older) => match finishA fr v with
        | some fr' => some ⟨fr' :: { c with mode := .pan ((v, true) :: older) } :: cs', h, none⟩
        | none => none
      | _ => match finishA fr (.sc .nilIface) with
        | some fr' => some ⟨fr' :: c :: cs', h, none⟩
        | none => none
    | false, cs => match finishA fr (.sc .nilIface) with
      | some fr' => some ⟨fr' :: cs, h, none⟩
      | none => none

def callA (E : Env) (fr : AFrame) (cs : List AFrame) (h : Heap) (o : Out) : Option Cfg :=
  match o with
  | .enter g args => match enterA E g args with
    | some fr' => some ⟨fr' :: fr :: cs, h, none⟩
    | none => none
  | .round l args => match roundA h l args with
    | some fr' => some ⟨fr' :: fr :: cs, h, none⟩
    | none => none
  | .defer d => match fr.rnd with
    | none => match finishA { fr with ds := d :: fr.ds } (.tup []) with
      | some fr' => some ⟨fr' :: cs, h, none⟩
      | none => none
    | some _ => none
  | .recover => recoverA fr cs h
  | .panic v => some ⟨raiseA fr [(v, false)] :: cs, h, none⟩
  | .val _ => none

/-- A run of a region's operations, as one step. -/
def stepOps (E : Env) (fr : AFrame) (cs : List AFrame) (h : Heap) (all rest : List Oper) (k : List AItem) : Option Cfg :=
  match runOps E fr.sz all rest fr.tm h with
  | some (.done tm h') => some ⟨{ fr with tm := tm, todo := k } :: cs, h', none⟩
  | some (.stop rest' tm h' o) => callA E { fr with tm := tm, todo := .ops all rest' :: k } cs h' o
  | none => none

/-- The end of a call. -/
def outA (E : Env) (c : Cfg) : Option AEnd :=
  match c.fs with
  | [] => match c.fin with
    | some v => some (.ret v c.h)
    | none => none
  | fr :: cs => match cs with
    | [] => match fr.mode, fr.ds, fr.rnd, fr.dfr with
      | .ret, [], none, false => match retA E c.h fr with
        | some v => some (.ret v c.h)
        | none => none
      | .pan chain, [], none, false => match E.F.get fr.fn with
        | some _ => some (.pan chain c.h)
        | none => none
      | _, _, _, _ => none
    | _ => none

/-- A call out of a drawn region, as a whole. -/
def callD (E : Env) (self : Cfg → Option AEnd) (o : Out) (h : Heap) : Option AEnd :=
  match o with
  | .enter g args => match enterA E g args with
    | some fr' => self ⟨[fr'], h, none⟩
    | none => none
  | .round l args => match roundA h l args with
    | some fr' => self ⟨[fr'], h, none⟩
    | none => none
  | _ => none

def modeMasks (ms : List Nat) : Bool :=
  match ms with
  | [_, b, c, d] => has b 0 && has c 0 && has d 0 && has d 1 && has d 2
  | _ => false

/-- The region by which the model draws whether Go's text or its compiler is followed: its first temporary, its last one. -/
def isMode (ops : List Oper) : Option (Tmp × Tmp) :=
  match ops with
  | [a, b, c, d] => match a.op, b.op, c.op, d.op with
    | .alloc e, .store e1 (.tmp x) (.const (.bool true)), .store e2 (.tmp y) (.const (.bool false)), .load e3 (.tmp z) =>
      match a.dst, b.dst, c.dst, d.dst, a.guard, b.guard, c.guard, d.guard with
      | some p, none, none, some q, none, none, none, none =>
        match Nat.beq x p && Nat.beq y p && Nat.beq z p && Nat.beq e1 e && Nat.beq e2 e && Nat.beq e3 e && !Nat.beq p q && (edgesOk 0 ops && modeMasks (masksGo [] ops)) with
        | true => some (p, q)
        | false => none
      | _, _, _, _, _, _, _, _ => none
    | _, _, _, _ => none
  | _ => none

/-- A row of regions without calls. -/
def straight (E : Env) (sz : Nat) : Code → Tr AV → Heap → Option (Tr AV × Heap)
  | .skip, tm, h => some (tm, h)
  | .seq a b, tm, h => match straight E sz a tm h with
    | some (tm', h') => straight E sz b tm' h'
    | none => none
  | .region _ ops d, tm, h => match d with
    | false => match runOps E sz ops.toList ops.toList tm h with
      | some (.done tm' h') => some (tm', h')
      | _ => none
    | true => match drawn E (fun _ _ => none) sz ops.toList tm h with
      | some (tm', h', none) => some (tm', h')
      | _ => none
  | _, _, _ => none

/-- The temporaries that a row of regions writes. -/
def dsts : Code → List Tmp
  | .seq a b => dsts a ++ dsts b
  | .region _ ops _ => ops.toList.filterMap (·.dst)
  | _ => []

def avsEqO : Option AV → Option AV → Bool
  | some a, some b => avEq a b
  | _, _ => false

/-- Of temporaries that may differ: those that don't. -/
def joinT (a b : Tr AV) : List Tmp → Tr AV → Tr AV
  | [], t => t
  | d :: ds, t => joinT a b ds (t.set d (match a.get d, b.get d with
    | some x, some y => match avEq x y with
      | true => x
      | false => .any
    | _, _ => .any))

def cellsEq (t u : Tr AV) (d e : List AV) (size : Nat) : Nat → Bool
  | 0 => true
  | k + 1 => (match cellA t size d k, cellA u size e k with
    | some a, some b => avEq a b
    | _, _ => false) && cellsEq t u d e size k

def objEq : AObj → AObj → Bool
  | .cells t s d e z g, .cells t' s' d' e' z' g' => Nat.beq s s' && Nat.beq e e' && Nat.beq z z' && (g == g') && cellsEq t t' d d' s s
  | _, _ => false

/-- Of two memories: what is the same in both, where they may differ. -/
def joinH (a b : Heap) : List Nat → Tr AObj → Tr AObj
  | [], t => t
  | n :: l, t => joinH a b l (match a.obj n, b.obj n with
    | some x, some y => match objEq x y with
      | true => t
      | false => t.set n .dead
    | _, _ => t.set n .dead)

def upto (a : Nat) : Nat → List Nat
  | 0 => []
  | k + 1 => a :: upto (a + 1) k

/-- The names of both memories that may differ. -/
def mayDiffer (h ha hb : Heap) : List Nat := (ha.log ++ hb.log).filter (fun n => Nat.blt n h.next) ++ upto h.next (max ha.next hb.next - h.next)

/-- A mode's region in one order, and what it chooses. -/
def modeRun (E : Env) (sz : Nat) (all order : List Oper) (q : Tmp) (a b : Code) (tm : Tr AV) (h : Heap) : Option (Tr AV × Heap) :=
  match runOps E sz all order tm h with
  | some (.done t1 h1) => match t1.get q with
    | some (.sc (.bool true)) => straight E sz a t1 h1
    | some (.sc (.bool false)) => straight E sz b t1 h1
    | _ => none
  | _ => none

def stepMode (E : Env) (fr : AFrame) (cs : List AFrame) (h : Heap) (ops : List Oper) (q : Tmp) (k : List AItem) : Option Cfg :=
  match ops, k with
  | [o0, o1, o2, o3], .code (.cond (.tmp q') a b) :: k' => match Nat.beq q' q with
    | true => match modeRun E fr.sz ops [o0, o1, o2, o3] q a b fr.tm ⟨h.tr, h.next, []⟩, modeRun E fr.sz ops [o0, o2, o1, o3] q a b fr.tm ⟨h.tr, h.next, []⟩ with
      | some (ta, ha), some (tb, hb) =>
        some ⟨{ fr with tm := joinT ta tb (ops.filterMap (·.dst) ++ (dsts a ++ dsts b)) fr.tm, todo := k' } :: cs, ⟨joinH ha hb (mayDiffer h ha hb) ha.tr, max ha.next hb.next, []⟩, none⟩
      | _, _ => none
    | false => none
  | _, _ => none

def stepDrawn (E : Env) (self : Out → Heap → Option AEnd) (fr : AFrame) (cs : List AFrame) (h : Heap) (all : List Oper) (k : List AItem) : Option Cfg :=
  match isMode all with
  | some (_, q) => stepMode E fr cs h all q k
  | none => match drawn E self fr.sz all fr.tm h with
    | some (tm, h', none) => some ⟨{ fr with tm := tm, todo := k } :: cs, h', none⟩
    | some (tm, h', some c) => some ⟨raiseA { fr with tm := tm } c :: cs, h', none⟩
    | none => none

def loopA (fr : AFrame) (h : Heap) : Option (Heap × Nat × List ADef) :=
  match fr.rnd with
  | some l => match h.obj l with
    | some (.loop r) => some (h, r.defers, fr.ds)
    | _ => none
  | none => some (h.new (.deferred []), h.next, ADef.mark h.next :: fr.ds)

def stepRange (E : Env) (fr : AFrame) (cs : List AFrame) (h : Heap) (f : Operand) (params : Array Tmp) (assign body : Code) (k : List AItem) : Option Cfg :=
  match loopA fr h with
  | none => none
  | some (h1, d, ds) =>
    match ev E.nG fr.tm f with
    | some (.fn (.func g) first captured) =>
      callA E { fr with todo := .inRange h1.next :: k, ds := ds } cs (h1.new (.loop ⟨.ready, none, fr.fn, fr.tm, fr.sz, params, assign, body, d⟩)) (.enter g (first ++ [.yld h1.next] ++ captured))
    | some (.yld n) => callA E { fr with todo := .inRange h1.next :: k, ds := ds } cs (h1.new (.loop ⟨.ready, none, fr.fn, fr.tm, fr.sz, params, assign, body, d⟩)) (.round n [.yld h1.next])
    | _ => none

def stepCode (E : Env) (self : Out → Heap → Option AEnd) (fr : AFrame) (cs : List AFrame) (h : Heap) (c : Code) (k : List AItem) : Option Cfg :=
  match c with
  | .skip => some ⟨{ fr with todo := k } :: cs, h, none⟩
  | .label _ => some ⟨{ fr with todo := k } :: cs, h, none⟩
  | .seq a b => some ⟨{ fr with todo := .code a :: .code b :: k } :: cs, h, none⟩
  | .cond o a b => match ev E.nG fr.tm o with
    | some (.sc (.bool true)) => some ⟨{ fr with todo := .code a :: k } :: cs, h, none⟩
    | some (.sc (.bool false)) => some ⟨{ fr with todo := .code b :: k } :: cs, h, none⟩
    | _ => none
  | .block id b => some ⟨{ fr with todo := .code b :: .inBlock id :: k } :: cs, h, none⟩
  | .loop b => some ⟨{ fr with todo := .code b :: .inLoop b :: k } :: cs, h, none⟩
  | .scope b => some ⟨{ fr with todo := .code b :: .inScope b :: k } :: cs, h, none⟩
  | .exit id => match aexitTo id k with
    | some k' => some ⟨{ fr with todo := k' } :: cs, h, none⟩
    | none => jumpA fr cs h (some (.exit id))
  | .goto l => match agotoIn l k with
    | some k' => some ⟨{ fr with todo := k' } :: cs, h, none⟩
    | none => jumpA fr cs h (some (.goto l))
  | .ret => jumpA fr cs h (some .ret)
  | .region _ ops d => match d with
    | false => stepOps E fr cs h ops.toList ops.toList k
    | true => stepDrawn E self fr cs h ops.toList k
  | .rangeFunc f params assign body => stepRange E fr cs h f params assign body k
  | .refuse _ => none

def stepRun (E : Env) (self : Out → Heap → Option AEnd) (fr : AFrame) (cs : List AFrame) (h : Heap) : Option Cfg :=
  match fr.todo with
  | [] => jumpA fr cs h none
  | x :: k => match x with
    | .inBlock _ => some ⟨{ fr with todo := k } :: cs, h, none⟩
    | .inScope _ => some ⟨{ fr with todo := k } :: cs, h, none⟩
    | .inLoop b => some ⟨{ fr with todo := .code b :: .inLoop b :: k } :: cs, h, none⟩
    | .ops all rest => stepOps E fr cs h all rest k
    | .inRange _ => none
    | .endRange l => match h.obj l with
      | some (.loop r) => match r.state with
        | .busy => none
        | _ => some ⟨{ fr with todo := (match r.pending with | some j => .code j :: k | none => k) } :: cs, h.put l (.loop { r with state := .exhausted }), none⟩
      | _ => none
    | .beginRound => match fr.rnd with
      | some l => match h.obj l with
        | some (.loop r) => match r.state with
          | .ready => some ⟨{ fr with todo := k } :: cs, h.put l (.loop { r with state := .busy }), none⟩
          | _ => none
        | _ => none
      | none => none
    | .code c => stepCode E self fr cs h c k

def astep (E : Env) (self : Out → Heap → Option AEnd) (c : Cfg) : Option Cfg :=
  match c.fs with
  | [] => none
  | fr :: cs => match fr.mode with
    | .ret => match fr.ds with
      | d :: ds => unwindA E fr cs c.h d ds
      | [] => match retA E c.h fr with
        | some v => leaveA fr cs c.h v
        | none => none
    | .pan chain => match fr.ds with
      | d :: ds => unwindA E fr cs c.h d ds
      | [] => match cs, E.F.get fr.fn with
        | c' :: cs', some _ => some ⟨raiseA c' chain :: cs', c.h, none⟩
        | _, _ => none
    | .run => stepRun E self fr cs c.h

/-- A call out of a drawn region: by what is known of it, else as it is. -/
def callT (E : Env) (tbl : Out → Heap → Option AEnd) (self : Cfg → Option AEnd) (o : Out) (h : Heap) : Option AEnd :=
  match tbl o h with
  | some e => some e
  | none => callD E self o h

/-- At most n steps, as far as the end. -/
def arun (E : Env) (tbl : Out → Heap → Option AEnd) : Nat → Cfg → Option AEnd
  | 0, _ => none
  | n + 1, c =>
    match outA E c with
    | some r => some r
    | none => match astep E (callT E tbl (arun E tbl n)) c with
      | some c' => arun E tbl n c'
      | none => none

def noTbl : Out → Heap → Option AEnd := fun _ _ => none

def Tr.ofListGo {α : Type} (i : Nat) : List α → Tr α → Tr α
  | [], t => t
  | a :: l, t => Tr.ofListGo (i + 1) l (t.set i a)

def Tr.ofList {α : Type} (l : List α) : Tr α := Tr.ofListGo 0 l .nil

def isAggV : Value → Bool
  | .agg _ => true
  | _ => false

def isAggD : TypeDesc → Bool
  | .struct _ | .array _ _ => true
  | _ => false

def tiOf (P : Program) (t : TypeId) : Option TI :=
  match P.info? t, P.underlying t with
  | some i, some d => match i.zero with
    | some z => match Nat.beq z.cells.size i.size && (isAggV z == isAggD d) with
      | true => some ⟨d, i.size, i.bytes, isAggD d, z.cells.toList.map ofC, i.comparable, P.eqGuardType P.depth t, P.stoodInHeld t⟩
      | false => none
    | none => none
  | _, _ => none

def typesOf (P : Program) : Nat → Nat → Tr TI → Tr TI
  | 0, _, T => T
  | k + 1, t, T => typesOf P k (t + 1) (match tiOf P t with | some i => T.set t i | none => T)

def envOf (P : Program) : Env := ⟨typesOf P P.types.size 0 .nil, Tr.ofList P.funcs.toList, P.globals.size⟩

end Go.Eng

/- The engine: how its values and memory stand to the model's. -/
namespace Go.Eng

theorem Tr.get_setF {α : Type} (a : α) : ∀ (f : Nat) (t : Tr α) (i j : Nat), i < f → (Tr.setF f t i a).get j = if j = i then some a else t.get j := by
  intro f
  induction f with
  | zero => intro t i j h; omega
  | succ f ih =>
    intro t i j h
    cases t with
    | nil =>
      cases i with
      | zero =>
        cases j with
        | zero => simp [Tr.setF, Tr.get]
        | succ m => simp only [Tr.setF, Tr.get]; split <;> simp
      | succ n =>
        have hn : n / 2 < f := by omega
        rcases Nat.mod_two_eq_zero_or_one n with h2 | h2
        · simp only [Tr.setF, h2]
          cases j with
          | zero => simp [Tr.get]
          | succ m =>
            rcases Nat.mod_two_eq_zero_or_one m with h3 | h3
            · simp only [Tr.get, h3]
              rw [ih _ _ _ hn]
              by_cases e : m / 2 = n / 2
              · have : m = n := by omega
                simp [this]
              · have : m ≠ n := fun h => e (by rw [h])
                simp [e, this, Tr.get]
            · have : m ≠ n := fun h => by omega
              simp [Tr.get, h3, this]
        · simp only [Tr.setF, h2]
          cases j with
          | zero => simp [Tr.get]
          | succ m =>
            rcases Nat.mod_two_eq_zero_or_one m with h3 | h3
            · have : m ≠ n := fun h => by omega
              simp [Tr.get, h3, this]
            · simp only [Tr.get, h3]
              rw [ih _ _ _ hn]
              by_cases e : m / 2 = n / 2
              · have : m = n := by omega
                simp [this]
              · have : m ≠ n := fun h => e (by rw [h])
                simp [e, this, Tr.get]
    | node v l r =>
      cases i with
      | zero => cases j <;> simp [Tr.setF, Tr.get]
      | succ n =>
        have hn : n / 2 < f := by omega
        rcases Nat.mod_two_eq_zero_or_one n with h2 | h2
        · simp only [Tr.setF, h2]
          cases j with
          | zero => simp [Tr.get]
          | succ m =>
            rcases Nat.mod_two_eq_zero_or_one m with h3 | h3
            · simp only [Tr.get, h3]
              rw [ih _ _ _ hn]
              by_cases e : m / 2 = n / 2
              · have : m = n := by omega
                simp [this]
              · have : m ≠ n := fun h => e (by rw [h])
                simp [e, this]
            · have : m ≠ n := fun h => by omega
              simp [Tr.get, h3, this]
        · simp only [Tr.setF, h2]
          cases j with
          | zero => simp [Tr.get]
          | succ m =>
            rcases Nat.mod_two_eq_zero_or_one m with h3 | h3
            · have : m ≠ n := fun h => by omega
              simp [Tr.get, h3, this]
            · simp only [Tr.get, h3]
              rw [ih _ _ _ hn]
              by_cases e : m / 2 = n / 2
              · have : m = n := by omega
                simp [this]
              · have : m ≠ n := fun h => e (by rw [h])
                simp [e, this]

theorem Tr.get_set {α : Type} (t : Tr α) (i j : Nat) (a : α) : (t.set i a).get j = if j = i then some a else t.get j :=
  Tr.get_setF a _ _ _ _ (Nat.lt_succ_self i)

theorem Tr.get_nil {α : Type} (j : Nat) : (Tr.nil : Tr α).get j = none := by simp [Tr.get]

/-- Where a name lies: the block, from which cell on, how many cells there are from there on, how many an element has. -/
structure Loc where
  b : Nat
  base : Nat
  c : Nat
  s : Nat

def Ren := Nat → Option Loc
def Ren.le (ρ ρ' : Ren) : Prop := ∀ n l, ρ n = some l → ρ' n = some l
theorem Ren.le_refl (ρ : Ren) : ρ.le ρ := fun _ _ h => h
theorem Ren.le_trans {ρ ρ' ρ'' : Ren} (h : ρ.le ρ') (h' : ρ'.le ρ'') : ρ.le ρ'' := fun n l e => h' n l (h n l e)
def Ren.put (ρ : Ren) (n : Nat) (l : Loc) : Ren := fun m => if m = n then some l else ρ m
theorem Ren.put_same (ρ : Ren) (n : Nat) (l : Loc) : ρ.put n l n = some l := by simp [Ren.put]
theorem Ren.put_other (ρ : Ren) {n m : Nat} (l : Loc) (h : m ≠ n) : ρ.put n l m = ρ m := by simp [Ren.put, h]
theorem Ren.le_put {ρ : Ren} {n : Nat} (l : Loc) (h : ρ n = none) : ρ.le (ρ.put n l) := by
  intro m k e
  by_cases hm : m = n
  · subst hm; rw [h] at e; cases e
  · rw [Ren.put_other ρ l hm]; exact e

def Loc.at (l : Loc) (off : Nat) : Addr := ⟨l.b, l.base + off, none⟩

/-- The slice value of a slice. -/
def slcV (l : Loc) (off len : Nat) (cap : Option Nat) (x : Value) : Prop :=
  match cap with
  | some k => x = .slice (some (l.at off)) len k
  | none => 0 < l.s ∧ off + len * l.s ≤ l.c ∧ x = .slice (some (l.at off)) len ((l.c - off) / l.s)

mutual
def R (ρ : Ren) : AV → Value → Prop
  | .sc v, x => x = v
  | .str l, x => x = .string (toB l) ∧ ∀ n ∈ l, n < 256
  | .ptr n off, x => ∃ l, ρ n = some l ∧ x = .pointer (some (l.at off))
  | .slc n off len cap, x => ∃ l, ρ n = some l ∧ slcV l off len cap x
  | .emp, x => ∃ a c, x = .slice (some a) 0 c
  | .mp n, x => ∃ l, ρ n = some l ∧ x = .map (some l.b)
  | .fn f a b, x => ∃ a' b', x = .func f a' b' ∧ RL ρ a a'.toList ∧ RL ρ b b'.toList
  | .yld n, x => ∃ l, ρ n = some l ∧ x = .func (.yield l.b) #[] #[]
  | .ifc t v, x => ∃ v', x = .iface t v' ∧ R ρ v v'
  | .agg cs, x => ∃ cs', x = .agg cs' ∧ RL ρ cs cs'.toList
  | .tup vs, x => ∃ vs', x = .tuple vs' ∧ RL ρ vs vs'.toList
  | .any, _ => True
def RL (ρ : Ren) : List AV → List Value → Prop
  | [], l => l = []
  | a :: as, l => ∃ b bs, l = b :: bs ∧ R ρ a b ∧ RL ρ as bs
end

mutual
theorem R_mono {ρ ρ' : Ren} (h : ρ.le ρ') : ∀ (a : AV) (x : Value), R ρ a x → R ρ' a x
  | .sc v, x => by simp only [R]; exact id
  | .str l, x => by simp only [R]; exact id
  | .ptr n off, x => by simp only [R]; rintro ⟨l, e, r⟩; exact ⟨l, h _ _ e, r⟩
  | .slc n off len cap, x => by simp only [R]; rintro ⟨l, e, r⟩; exact ⟨l, h _ _ e, r⟩
  | .emp, x => by simp only [R]; exact id
  | .mp n, x => by simp only [R]; rintro ⟨l, e, r⟩; exact ⟨l, h _ _ e, r⟩
  | .fn f a b, x => by simp only [R]; rintro ⟨a', b', e, r, s⟩; exact ⟨a', b', e, RL_mono h _ _ r, RL_mono h _ _ s⟩
  | .yld n, x => by simp only [R]; rintro ⟨l, e, r⟩; exact ⟨l, h _ _ e, r⟩
  | .ifc t v, x => by simp only [R]; rintro ⟨v', e, r⟩; exact ⟨v', e, R_mono h _ _ r⟩
  | .agg cs, x => by simp only [R]; rintro ⟨v', e, r⟩; exact ⟨v', e, RL_mono h _ _ r⟩
  | .tup cs, x => by simp only [R]; rintro ⟨v', e, r⟩; exact ⟨v', e, RL_mono h _ _ r⟩
  | .any, x => by simp only [R]; exact id
theorem RL_mono {ρ ρ' : Ren} (h : ρ.le ρ') : ∀ (a : List AV) (x : List Value), RL ρ a x → RL ρ' a x
  | [], x => by simp only [RL]; exact id
  | a :: as, x => by simp only [RL]; rintro ⟨b, bs, e, r, s⟩; exact ⟨b, bs, e, R_mono h _ _ r, RL_mono h _ _ s⟩
end

theorem RL_length {ρ : Ren} : ∀ {a : List AV} {x : List Value}, RL ρ a x → a.length = x.length
  | [], x, h => by simp only [RL] at h; simp [h]
  | a :: as, x, h => by
    simp only [RL] at h
    obtain ⟨b, bs, rfl, _, s⟩ := h
    simp [RL_length s]

theorem RL_get {ρ : Ren} : ∀ {a : List AV} {x : List Value} {i : Nat} {v : AV}, RL ρ a x → lget a i = some v → ∃ y, x[i]? = some y ∧ R ρ v y
  | [], x, i, v, h, e => by simp [lget] at e
  | a :: as, x, i, v, h, e => by
    simp only [RL] at h
    obtain ⟨b, bs, rfl, r, s⟩ := h
    cases i with
    | zero => simp only [lget, Option.some.injEq] at e; subst e; exact ⟨b, rfl, r⟩
    | succ i => simp only [lget] at e; obtain ⟨y, hy, hr⟩ := RL_get s e; exact ⟨y, by simpa using hy, hr⟩

theorem RL_append {ρ : Ren} : ∀ {a c : List AV} {x y : List Value}, RL ρ a x → RL ρ c y → RL ρ (a ++ c) (x ++ y)
  | [], c, x, y, h, h' => by simp only [RL] at h; subst h; exact h'
  | a :: as, c, x, y, h, h' => by
    simp only [RL] at h
    obtain ⟨b, bs, rfl, r, s⟩ := h
    simp only [List.cons_append, RL]
    exact ⟨b, bs ++ y, rfl, r, RL_append s h'⟩

theorem RL_take {ρ : Ren} : ∀ {a : List AV} {x : List Value} (n : Nat), RL ρ a x → RL ρ (a.take n) (x.take n)
  | [], x, n, h => by simp only [RL] at h; subst h; simp [RL]
  | a :: as, x, 0, h => by simp [RL]
  | a :: as, x, n + 1, h => by
    simp only [RL] at h
    obtain ⟨b, bs, rfl, r, s⟩ := h
    simp only [List.take_succ_cons, RL]
    exact ⟨b, _, rfl, r, RL_take n s⟩

theorem RL_drop {ρ : Ren} : ∀ {a : List AV} {x : List Value} (n : Nat), RL ρ a x → RL ρ (a.drop n) (x.drop n)
  | [], x, n, h => by simp only [RL] at h; subst h; simp [RL]
  | a :: as, x, 0, h => h
  | a :: as, x, n + 1, h => by
    simp only [RL] at h
    obtain ⟨b, bs, rfl, r, s⟩ := h
    simpa using RL_drop n s

theorem RL_map_sc {ρ : Ren} : ∀ (l : List Value), RL ρ (l.map AV.sc) l
  | [] => by simp [RL]
  | a :: l => by simp only [List.map_cons, RL]; exact ⟨a, l, rfl, by simp [R], RL_map_sc l⟩

theorem toB_bytes (s : ByteArray) : toB (s.data.toList.map UInt8.toNat) = s := by
  have h : (UInt8.ofNat ∘ UInt8.toNat) = id := by
    funext x
    exact UInt8.ofNat_toNat
  cases s with
  | mk d => simp [toB, List.map_map, h]

theorem R_strOf {ρ : Ren} (s : ByteArray) : R ρ (strOf s) (.string s) := by
  simp only [strOf, R]
  refine ⟨by rw [toB_bytes], ?_⟩
  intro n hn
  simp only [List.mem_map] at hn
  obtain ⟨x, _, rfl⟩ := hn
  exact UInt8.toNat_lt x

theorem R_ofC {ρ : Ren} (v : Value) : R ρ (ofC v) v := by
  unfold ofC
  split
  · exact R_strOf _
  · simp [R]

theorem RL_ofC {ρ : Ren} : ∀ (l : List Value), RL ρ (l.map ofC) l
  | [] => by simp [RL]
  | a :: l => by simp only [List.map_cons, RL]; exact ⟨a, l, rfl, R_ofC a, RL_ofC l⟩

theorem R_ofV {ρ : Ren} (v : Value) : R ρ (ofV v) v := by
  unfold ofV
  split
  · exact R_strOf _
  · rename_i cs
    simp only [R]
    exact ⟨cs, rfl, RL_ofC _⟩
  · rename_i vs
    split
    · rename_i h
      simp only [R]
      exact ⟨vs, rfl, by simp [RL, h]⟩
    · simp [R]
  · simp only [R]
    exact ⟨_, rfl, R_ofC _⟩
  · simp [R]

def TR (ρ : Ren) (tm : Tr AV) (tmps : Array Value) : Prop := ∀ t v, tm.get t = some v → R ρ v (tmps.getD t undef)

theorem TR.mono {ρ ρ' : Ren} {tm : Tr AV} {tmps : Array Value} (h : TR ρ tm tmps) (hle : ρ.le ρ') : TR ρ' tm tmps :=
  fun t v e => R_mono hle _ _ (h t v e)

theorem TR.set {ρ : Ren} {tm : Tr AV} {tmps : Array Value} {d : Nat} {v : AV} {x : Value} (h : TR ρ tm tmps) (hd : d < tmps.size) (hv : R ρ v x) :
    TR ρ (tm.set d v) (tmps.setIfInBounds d x) := by
  intro t u e
  rw [Tr.get_set] at e
  by_cases ht : t = d
  · subst ht
    simp only [if_true, Option.some.injEq] at e
    subst e
    simpa [hd] using hv
  · simp only [ht, if_false] at e
    have := h t u e
    have ht' : d ≠ t := fun h => ht h.symm
    simpa [Array.getElem?_setIfInBounds_ne ht'] using this

/-- How a map's entries stand to one another. -/
def ER (ρ : Ren) : List MapE → List MapEntry → Prop
  | [], l => l = []
  | a :: as, l => ∃ b bs, l = b :: bs ∧ R ρ a.key b.key ∧ R ρ a.val b.val ∧ b.born = a.born ∧ ER ρ as bs

theorem ER.mono {ρ ρ' : Ren} (h : ρ.le ρ') : ∀ {a : List MapE} {x : List MapEntry}, ER ρ a x → ER ρ' a x
  | [], x, e => e
  | a :: as, x, e => by
    obtain ⟨b, bs, r, r1, r2, r3, s⟩ := e
    exact ⟨b, bs, r, R_mono h _ _ r1, R_mono h _ _ r2, r3, s.mono h⟩

def DR (ρ : Ren) : ADef → Deferred → Prop
  | .mark n, d => ∃ l, ρ n = some l ∧ d = { target := .collected l.b, args := #[] }
  | .call g args, d => ∃ as c, d = { target := .fn (.func g) c, args := as } ∧ RL ρ args (as ++ c).toList

def DRL (ρ : Ren) : List ADef → List Deferred → Prop
  | [], l => l = []
  | a :: as, l => ∃ b bs, l = b :: bs ∧ DR ρ a b ∧ DRL ρ as bs

theorem DR.mono {ρ ρ' : Ren} (h : ρ.le ρ') : ∀ {a : ADef} {x : Deferred}, DR ρ a x → DR ρ' a x
  | .mark _n, _x, ⟨l, e, r⟩ => ⟨l, h _ _ e, r⟩
  | .call _g _args, _x, ⟨as, c, e, r⟩ => ⟨as, c, e, RL_mono h _ _ r⟩

theorem DRL.mono {ρ ρ' : Ren} (h : ρ.le ρ') : ∀ {a : List ADef} {x : List Deferred}, DRL ρ a x → DRL ρ' a x
  | [], x, e => e
  | a :: as, x, e => by
    obtain ⟨b, bs, r, r1, s⟩ := e
    exact ⟨b, bs, r, r1.mono h, s.mono h⟩

/-- What an abstract row says of cells. -/
def CR (ρ : Ren) (base : Nat) (t : Tr AV) (size : Nat) (dflt : List AV) (c : Array Value) : Prop :=
  ∀ i v, cellA t size dflt i = some v → ∃ x, c[base + i]? = some x ∧ R ρ v x

/-- What an object says of the block in which it lies. -/
def OR (ρ : Ren) (l : Loc) (o : AObj) (ob : Option Obj) : Prop :=
  match o with
  | .cells t size dflt elem esz grow => l.s = esz ∧ size ≤ l.c ∧ (grow = false → l.base = 0 ∧ l.c = size) ∧
      ∃ c fr, ob = some (.cells c elem fr) ∧ c.size = l.base + l.c ∧ (fr.1 = fr.2 ∨ l.base + l.c ≤ fr.1) ∧ CR ρ l.base t size dflt c
  | .map es clock => ∃ es', ob = some (.map es' clock) ∧ ER ρ es es'.toList
  | .loop r => ∃ r' ld, ob = some (.loop r') ∧ r'.state = r.state ∧ r'.pending = r.pending ∧ r'.fn = r.fn ∧ r'.tmps.size = r.sz ∧ TR ρ r.tm r'.tmps ∧
      r'.params = r.params ∧ r'.assign = r.assign ∧ r'.body = r.body ∧ ρ r.defers = some ld ∧ r'.defers = ld.b
  | .deferred ds => ∃ ds', ob = some (.deferred (some ds')) ∧ DRL ρ ds ds'
  | .siter s pos => l.base = 0 ∧ ob = some (.stringIter (toB s) pos) ∧ ∀ n ∈ s, n < 256
  | .dead => True

theorem notFrozen {fr : Nat × Nat} {s i : Nat} (h : fr.1 = fr.2 ∨ s ≤ fr.1) (hi : i < s) : ¬ (fr.1 ≤ i ∧ i < fr.2) := by
  rcases h with h | h <;> omega

theorem OR.mono {ρ ρ' : Ren} (h : ρ.le ρ') {l : Loc} {o : AObj} {ob : Option Obj} (e : OR ρ l o ob) : OR ρ' l o ob := by
  cases o with
  | cells t size dflt elem esz grow =>
    obtain ⟨h1, h2, h3, c, fr, h4, h5, h6, h7⟩ := e
    exact ⟨h1, h2, h3, c, fr, h4, h5, h6, fun i v hv => let ⟨x, hx, hr⟩ := h7 i v hv; ⟨x, hx, R_mono h _ _ hr⟩⟩
  | map es clock => obtain ⟨es', h1, h2⟩ := e; exact ⟨es', h1, h2.mono h⟩
  | loop r => obtain ⟨r', ld, h1, h2, h3, h4, h5, h6, h7, h8, h9, h10, h11⟩ := e; exact ⟨r', ld, h1, h2, h3, h4, h5, h6.mono h, h7, h8, h9, h _ _ h10, h11⟩
  | deferred ds => obtain ⟨es', h1, h2⟩ := e; exact ⟨es', h1, h2.mono h⟩
  | siter s pos => exact e
  | dead => trivial

/-- The memory's standing. -/
structure Rel (nG : Nat) (ρ : Ren) (h : Heap) (w : World) : Prop where
  obj : ∀ n o, h.obj n = some o → o ≠ .dead → ∃ l, ρ n = some l ∧ OR ρ l o w.heap[l.b]?
  inj : ∀ n m l l', live h n = true → live h m = true → ρ n = some l → ρ m = some l' → l.b = l'.b → n = m
  lt : ∀ n l, ρ n = some l → n < h.next ∧ l.b < w.heap.size
  glob : ∀ g, g < nG → ∃ l, ρ g = some l ∧ l.b = g ∧ l.base = 0
  fresh : ∀ n, h.next ≤ n → h.obj n = none
  globs : nG ≤ h.next

/-- What a look at the memory asks. -/
structure RelQ (nG : Nat) (ρ : Ren) (h : Heap) (w : World) : Prop where
  obj : ∀ n o, h.obj n = some o → o ≠ .dead → ∃ l, ρ n = some l ∧ OR ρ l o w.heap[l.b]?
  glob : ∀ g, g < nG → ∃ l, ρ g = some l ∧ l.b = g ∧ l.base = 0

theorem Rel.q {nG : Nat} {ρ : Ren} {h : Heap} {w : World} (r : Rel nG ρ h w) : RelQ nG ρ h w := ⟨r.obj, r.glob⟩

instance {nG : Nat} {ρ : Ren} {h : Heap} {w : World} : CoeOut (Rel nG ρ h w) (RelQ nG ρ h w) := ⟨Rel.q⟩

theorem live_iff {h : Heap} {n : Nat} : live h n = true ↔ ∃ o, h.obj n = some o ∧ o ≠ .dead := by
  unfold live
  cases ho : h.obj n with
  | none => simp
  | some o => cases o <;> simp

theorem obj_put (h : Heap) (n m : Nat) (o : AObj) : (h.put n o).obj m = if m = n then some o else h.obj m := Tr.get_set _ _ _ _
theorem obj_new (h : Heap) (m : Nat) (o : AObj) : (h.new o).obj m = if m = h.next then some o else h.obj m := Tr.get_set _ _ _ _

/-- What is not memory stays as it is. -/
def Kpt (w w' : World) : Prop := w'.os = w.os ∧ w'.tape = w.tape ∧ w'.output = w.output

theorem Kpt.trans {a b c : World} (h : Kpt a b) (k : Kpt b c) : Kpt a c := ⟨k.1.trans h.1, k.2.1.trans h.2.1, k.2.2.trans h.2.2⟩

/-- What a run keeps. -/
structure Ext (ρ : Ren) (h : Heap) (w : World) (ρ' : Ren) (h' : Heap) (w' : World) : Prop where
  le : ρ.le ρ'
  next : h.next ≤ h'.next
  lives : ∀ n, n < h.next → Eng.live h' n = true → Eng.live h n = true
  frame : ∀ b, b < w.heap.size → (∀ n l, Eng.live h n = true → ρ n = some l → l.b ≠ b) → w'.heap[b]? = w.heap[b]?
  size : w.heap.size ≤ w'.heap.size
  fresh : ∀ n l, ρ' n = some l → ρ n = none → h.next ≤ n ∧ (w.heap.size ≤ l.b ∨ ∃ m l0, Eng.live h m = true ∧ ρ m = some l0 ∧ l0.b = l.b)
  kept : Kpt w w'

theorem Ext.refl (ρ : Ren) (h : Heap) (w : World) : Ext ρ h w ρ h w :=
  ⟨ρ.le_refl, Nat.le_refl _, fun _ _ h => h, fun _ _ _ => rfl, Nat.le_refl _, fun n l e e' => (by rw [e'] at e; cases e), rfl, rfl, rfl⟩

theorem Ext.trans {nG : Nat} {ρ ρ1 ρ2 : Ren} {h h1 h2 : Heap} {w w1 w2 : World} (hr : Rel nG ρ h w) (_hr1 : Rel nG ρ1 h1 w1) (a : Ext ρ h w ρ1 h1 w1) (b : Ext ρ1 h1 w1 ρ2 h2 w2) : Ext ρ h w ρ2 h2 w2 := by
  have own : ∀ n l, live h1 n = true → ρ1 n = some l → (w.heap.size ≤ l.b ∨ ∃ m l0, live h m = true ∧ ρ m = some l0 ∧ l0.b = l.b) := by
    intro n l hl hn
    cases hρ : ρ n with
    | none => exact (a.fresh n l hn hρ).2
    | some l' =>
      have := a.le n l' hρ
      rw [hn] at this
      cases this
      exact .inr ⟨n, l, a.lives n (hr.lt n l hρ).1 hl, hρ, rfl⟩
  refine ⟨Ren.le_trans a.le b.le, Nat.le_trans a.next b.next, fun n hn hl => a.lives n hn (b.lives n (Nat.lt_of_lt_of_le hn a.next) hl), ?_, Nat.le_trans a.size b.size, ?_, a.kept.trans b.kept⟩
  · intro k hk hno
    rw [b.frame k (Nat.lt_of_lt_of_le hk a.size) ?_, a.frame k hk hno]
    intro n l hl hn e
    rcases own n l hl hn with h' | ⟨m, l0, h1', h2', h3'⟩
    · omega
    · exact hno m l0 h1' h2' (by omega)
  · intro n l hn hno
    cases hρ : ρ1 n with
    | some l' =>
      have := b.le n l' hρ
      rw [hn] at this
      cases this
      exact a.fresh n l hρ hno
    | none =>
      obtain ⟨h1', h2'⟩ := b.fresh n l hn hρ
      refine ⟨Nat.le_trans a.next h1', ?_⟩
      rcases h2' with h' | ⟨m, l0, h3', h4', h5'⟩
      · exact .inl (Nat.le_trans a.size h')
      · rw [← h5']; exact own m l0 h3' h4'

section
variable {nG : Nat} {ρ : Ren} {h : Heap} {w w' : World}

theorem Rel.same (r : Rel nG ρ h w) (e : w'.heap = w.heap) : Rel nG ρ h w' :=
  ⟨fun n o a b => by rw [e]; exact r.obj n o a b, r.inj, fun n l a => by rw [e]; exact r.lt n l a, r.glob, r.fresh, r.globs⟩

theorem Ext.same (e : w'.heap = w.heap) (hkp : Kpt w w' := by exact ⟨rfl, rfl, rfl⟩) : Ext ρ h w ρ h w' :=
  ⟨ρ.le_refl, Nat.le_refl _, fun _ _ h => h, fun _ _ _ => by rw [e], by rw [e]; exact Nat.le_refl _, fun n l e e' => (by rw [e'] at e; cases e), hkp⟩

/-- An object is turned, in its own block. -/
theorem Rel.put (r : Rel nG ρ h w) {n : Nat} {l : Loc} {o : AObj} (hl : live h n = true) (hn : ρ n = some l) (hb : ∀ b, b ≠ l.b → w'.heap[b]? = w.heap[b]?)
    (hs : w'.heap.size = w.heap.size) (ho : OR ρ l o w'.heap[l.b]?) (hkp : Kpt w w' := by exact ⟨rfl, rfl, rfl⟩) : Rel nG ρ (h.put n o) w' ∧ Ext ρ h w ρ (h.put n o) w' := by
  obtain ⟨o0, ho0, hd0⟩ := live_iff.1 hl
  have hlv : ∀ m, live (h.put n o) m = true → live h m = true := by
    intro m hm
    by_cases e : m = n
    · rw [e]; exact hl
    · obtain ⟨o', h1, h2⟩ := live_iff.1 hm
      rw [obj_put] at h1
      simp only [e, if_false] at h1
      exact live_iff.2 ⟨o', h1, h2⟩
  refine ⟨⟨?_, ?_, ?_, r.glob, ?_, r.globs⟩, ⟨ρ.le_refl, Nat.le_refl _, fun m _ => hlv m, ?_, Nat.le_of_eq hs.symm, fun n l e e' => (by rw [e'] at e; cases e), hkp⟩⟩
  · intro m o' hm hd
    rw [obj_put] at hm
    by_cases e : m = n
    · subst e
      simp only [if_true, Option.some.injEq] at hm
      subst hm
      exact ⟨l, hn, ho⟩
    · simp only [e, if_false] at hm
      obtain ⟨l', h1, h2⟩ := r.obj m o' hm hd
      refine ⟨l', h1, ?_⟩
      rw [hb l'.b fun hbb => e (r.inj m n l' l (live_iff.2 ⟨o', hm, hd⟩) hl h1 hn hbb)]
      exact h2
  · intro a b la lb ha hb' h1 h2 h3
    exact r.inj a b la lb (hlv a ha) (hlv b hb') h1 h2 h3
  · intro a la ha
    rw [hs]
    exact r.lt a la ha
  · intro m hm
    rw [obj_put]
    by_cases e : m = n
    · have := r.lt n l hn
      rw [e] at hm
      have hm' : h.next ≤ n := hm
      omega
    · simp only [e, if_false]; exact r.fresh m hm
  · intro b hlt hno
    exact hb b fun e => hno n l hl hn e.symm

/-- An object is given up. -/
theorem Rel.kill (r : Rel nG ρ h w) {n : Nat} (hn : n < h.next) : Rel nG ρ (h.put n .dead) w ∧ Ext ρ h w ρ (h.put n .dead) w := by
  have hlv : ∀ m, live (h.put n .dead) m = true → live h m = true ∧ m ≠ n := by
    intro m hm
    obtain ⟨o', h1, h2⟩ := live_iff.1 hm
    rw [obj_put] at h1
    by_cases e : m = n
    · simp only [e, if_true, Option.some.injEq] at h1
      exact absurd h1.symm h2
    · simp only [e, if_false] at h1
      exact ⟨live_iff.2 ⟨o', h1, h2⟩, e⟩
  refine ⟨⟨?_, ?_, r.lt, r.glob, ?_, r.globs⟩, ⟨ρ.le_refl, Nat.le_refl _, fun m _ hm => (hlv m hm).1, fun _ _ _ => rfl, Nat.le_refl _, fun n l e e' => (by rw [e'] at e; cases e), rfl, rfl, rfl⟩⟩
  · intro m o' hm hd
    rw [obj_put] at hm
    by_cases e : m = n
    · simp only [e, if_true, Option.some.injEq] at hm
      exact absurd hm.symm hd
    · simp only [e, if_false] at hm
      exact r.obj m o' hm hd
  · intro a b la lb ha hb' h1 h2 h3
    exact r.inj a b la lb (hlv a ha).1 (hlv b hb').1 h1 h2 h3
  · intro m hm
    rw [obj_put]
    have hm' : h.next ≤ m := hm
    have : m ≠ n := by omega
    simp only [this, if_false]
    exact r.fresh m hm

theorem Rel.none (r : Rel nG ρ h w) : ρ h.next = none := by
  cases e : ρ h.next with
  | none => rfl
  | some l => have := (r.lt _ _ e).1; omega

/-- An object is made (or a block of an object that was given up is named anew). -/
theorem Rel.new (r : Rel nG ρ h w) {l : Loc} {o : AObj} (hb : ∀ n l', live h n = true → ρ n = some l' → w'.heap[l'.b]? = w.heap[l'.b]?)
    (hs : w.heap.size ≤ w'.heap.size) (hown : w.heap.size ≤ l.b ∨ ∀ n l', live h n = true → ρ n = some l' → l'.b ≠ l.b) (hlt : l.b < w'.heap.size)
    (ho : OR (ρ.put h.next l) l o w'.heap[l.b]?) : Rel nG (ρ.put h.next l) (h.new o) w' := by
  have hnone := r.none
  have hle : ρ.le (ρ.put h.next l) := Ren.le_put l hnone
  have hne : ∀ n l', live h n = true → ρ n = some l' → l'.b ≠ l.b := by
    intro n l' h1 h2 h3
    rcases hown with h' | h'
    · have := (r.lt n l' h2).2; omega
    · exact h' n l' h1 h2 h3
  have hlv : ∀ m, m ≠ h.next → live (h.new o) m = true → live h m = true := by
    intro m e hm
    obtain ⟨o', h1, h2⟩ := live_iff.1 hm
    rw [obj_new] at h1
    simp only [e, if_false] at h1
    exact live_iff.2 ⟨o', h1, h2⟩
  refine ⟨?_, ?_, ?_, ?_, ?_, Nat.le_succ_of_le r.globs⟩
  · intro m o' hm hd
    rw [obj_new] at hm
    by_cases e : m = h.next
    · subst e
      simp only [if_true, Option.some.injEq] at hm
      subst hm
      exact ⟨l, Ren.put_same _ _ _, ho⟩
    · simp only [e, if_false] at hm
      obtain ⟨l', h1, h2⟩ := r.obj m o' hm hd
      refine ⟨l', hle _ _ h1, ?_⟩
      rw [hb m l' (live_iff.2 ⟨o', hm, hd⟩) h1]
      exact h2.mono hle
  · intro a b la lb ha hb' h1 h2 h3
    by_cases ea : a = h.next <;> by_cases eb : b = h.next
    · rw [ea, eb]
    · subst ea
      rw [Ren.put_same] at h1
      cases h1
      rw [Ren.put_other _ _ eb] at h2
      exact absurd h3.symm (hne b lb (hlv b eb hb') h2)
    · subst eb
      rw [Ren.put_same] at h2
      cases h2
      rw [Ren.put_other _ _ ea] at h1
      exact absurd h3 (hne a la (hlv a ea ha) h1)
    · rw [Ren.put_other _ _ ea] at h1
      rw [Ren.put_other _ _ eb] at h2
      exact r.inj a b la lb (hlv a ea ha) (hlv b eb hb') h1 h2 h3
  · intro a la ha
    show a < h.next + 1 ∧ _
    by_cases ea : a = h.next
    · subst ea
      rw [Ren.put_same] at ha
      cases ha
      exact ⟨by omega, hlt⟩
    · rw [Ren.put_other _ _ ea] at ha
      have := r.lt a la ha
      exact ⟨by omega, by omega⟩
  · intro g hg
    obtain ⟨l', h1, h2⟩ := r.glob g hg
    exact ⟨l', hle _ _ h1, h2⟩
  · intro m hm
    have hm' : h.next + 1 ≤ m := hm
    rw [obj_new]
    have : m ≠ h.next := by omega
    simp only [this, if_false]
    exact r.fresh m (by omega)

/-- What a made object keeps: a new block, or one of a name that lived. -/
theorem Rel.new_ext (r : Rel nG ρ h w) {l : Loc} {o : AObj} (hfr : ∀ b, b < w.heap.size → b ≠ l.b → w'.heap[b]? = w.heap[b]?)
    (hs : w.heap.size ≤ w'.heap.size) (hl : w.heap.size ≤ l.b) (hkp : Kpt w w' := by exact ⟨rfl, rfl, rfl⟩) : Ext ρ h w (ρ.put h.next l) (h.new o) w' := by
  refine ⟨Ren.le_put l r.none, Nat.le_succ _, ?_, fun b hb _ => hfr b hb (by omega), hs, ?_, hkp⟩
  · intro m hm hlm
    obtain ⟨o', h1, h2⟩ := live_iff.1 hlm
    rw [obj_new] at h1
    have : m ≠ h.next := by omega
    simp only [this, if_false] at h1
    exact live_iff.2 ⟨o', h1, h2⟩
  · intro n l' h1 h2
    by_cases e : n = h.next
    · subst e
      rw [Ren.put_same] at h1
      cases h1
      exact ⟨Nat.le_refl _, .inl hl⟩
    · rw [Ren.put_other _ _ e, h2] at h1
      cases h1

theorem new_any (r : Rel nG ρ h w) {o : AObj} {ob : Obj} {c s : Nat} (hs : w'.heap.size = w.heap.size + 1) (hb : ∀ b, b < w.heap.size → w'.heap[b]? = w.heap[b]?)
    (hnew : w'.heap[w.heap.size]? = some ob) (ho : ∀ ρ', ρ.le ρ' → ρ' h.next = some ⟨w.heap.size, 0, c, s⟩ → OR ρ' ⟨w.heap.size, 0, c, s⟩ o (some ob)) (hkp : Kpt w w' := by exact ⟨rfl, rfl, rfl⟩) :
    Rel nG (ρ.put h.next ⟨w.heap.size, 0, c, s⟩) (h.new o) w' ∧ Ext ρ h w (ρ.put h.next ⟨w.heap.size, 0, c, s⟩) (h.new o) w' := by
  refine ⟨r.new (fun n l' _ hn => hb _ (r.lt n l' hn).2) (by omega) (.inl (Nat.le_refl _)) (by show w.heap.size < _; omega) ?_, r.new_ext (fun b h2 _ => hb b h2) (by omega) (Nat.le_refl _) hkp⟩
  show OR _ _ _ (w'.heap[w.heap.size]?)
  rw [hnew]
  exact ho _ (Ren.le_put _ r.none) (Ren.put_same _ _ _)

/-- A block is turned, and its object says the same of it. -/
theorem Rel.turn (r : Rel nG ρ h w) {n : Nat} {l : Loc} {o : AObj} (hl : h.obj n = some o) (hd : o ≠ .dead) (hn : ρ n = some l) (hb : ∀ b, b ≠ l.b → w'.heap[b]? = w.heap[b]?)
    (hs : w'.heap.size = w.heap.size) (ho : OR ρ l o w'.heap[l.b]?) (hkp : Kpt w w' := by exact ⟨rfl, rfl, rfl⟩) : Rel nG ρ h w' ∧ Ext ρ h w ρ h w' := by
  have hlive : live h n = true := live_iff.2 ⟨o, hl, hd⟩
  refine ⟨⟨?_, r.inj, fun a la ha => by rw [hs]; exact r.lt a la ha, r.glob, r.fresh, r.globs⟩, ⟨ρ.le_refl, Nat.le_refl _, fun m _ hm => hm, ?_, Nat.le_of_eq hs.symm, fun n l e e' => (by rw [e'] at e; cases e), hkp⟩⟩
  · intro m o' hm hd'
    by_cases e : m = n
    · subst e
      rw [hl] at hm
      cases hm
      exact ⟨l, hn, ho⟩
    · obtain ⟨l', h1, h2⟩ := r.obj m o' hm hd'
      refine ⟨l', h1, ?_⟩
      rw [hb l'.b fun hbb => e (r.inj m n l' l (live_iff.2 ⟨o', hm, hd'⟩) hlive h1 hn hbb)]
      exact h2
  · intro b _ hno
    exact hb b fun e => hno n l hlive hn e.symm
end

end Go.Eng

/- The engine: the operations that leave the memory as it is, against the model's. -/
namespace Go.Eng

structure TIok (P : Program) (t : TypeId) (i : TI) : Prop where
  und : P.underlying t = some i.desc
  info : ∃ ti z, P.info? t = some ti ∧ ti.size = i.size ∧ ti.bytes = i.bytes ∧ ti.comparable = i.cmp ∧ ti.zero = some z ∧ z.cells.toList.map ofC = i.zero ∧
    z.cells.size = i.size ∧ (i.agg = true → ∃ cs, z = .agg cs) ∧ (i.agg = false → ∀ cs, z ≠ .agg cs)
  agg : i.agg = (match i.desc with | .struct _ | .array _ _ => true | _ => false)
  eqg : i.eqg = P.eqGuardType P.depth t
  stood : i.stood = P.stoodInHeld t

structure EnvOK (P : Program) (E : Env) : Prop where
  T : ∀ t i, E.T.get t = some i → TIok P t i
  F : ∀ f fn, E.F.get f = some fn → P.funcs[f]? = some fn
  mixed : P.follows .mixedOrders = true
  nG : E.nG = P.globals.size
  ng : ∀ f fn, E.F.get f = some fn → fn.name ≠ "runtime.NumGoroutine"

/-- The operands' values. -/
def EvOK (nG : Nat) (ρ : Ren) (tm : Tr AV) (e : Operand → Value) : Prop := ∀ x v, ev nG tm x = some v → R ρ v (e x)

section
variable {P : Program} {E : Env} {ρ : Ren} {h : Heap} {w : World} {tm : Tr AV} {e : Operand → Value}

theorem run_typeInfo {t : TypeId} {ti : TypeInfo} (h : P.info? t = some ti) : (typeInfo t).run P w = .ok ti w := by
  simp [typeInfo, h]

theorem run_sizeOf {t : TypeId} {i : TI} (h : TIok P t i) : (sizeOf t).run P w = .ok i.size w := by
  obtain ⟨ti, z, h1, h2, _⟩ := h.info
  simp [sizeOf, run_typeInfo h1, h2]

theorem run_zeroValue {t : TypeId} {i : TI} (h : TIok P t i) : ∃ z, (zeroValue t).run P w = .ok z w ∧ z.cells.toList.map ofC = i.zero ∧
    z.cells.size = i.size ∧ (i.agg = true → ∃ cs, z = .agg cs) ∧ (i.agg = false → ∀ cs, z ≠ .agg cs) := by
  obtain ⟨ti, z, h1, h2, h3, h4, h5, h6⟩ := h.info
  exact ⟨z, by simp [zeroValue, run_typeInfo h1, h5], h6⟩

theorem run_isAgg {t : TypeId} {i : TI} (h : TIok P t i) : (isAgg t).run P w = .ok i.agg w := by
  rw [h.agg]
  simp only [isAgg, Sem.run_bind, run_underlying h.und, Result.andThen_ok]
  cases i.desc <;> simp

theorem R_zeroA {t : TypeId} {i : TI} {v : AV} (h : TIok P t i) (hv : zeroA i = some v) : ∃ z, (zeroValue t).run P w = .ok z w ∧ R ρ v z := by
  obtain ⟨z, h1, h2, h3, h4, h5⟩ := run_zeroValue (w := w) h
  refine ⟨z, h1, ?_⟩
  unfold zeroA at hv
  split at hv
  · rename_i ha
    obtain ⟨cs, rfl⟩ := h4 ha
    cases hv
    simp only [R]
    exact ⟨cs, rfl, by rw [← h2]; exact RL_ofC _⟩
  · rename_i ha
    split at hv
    · rename_i u hu
      cases hv
      have hz : z.cells = #[z] := by
        have := h5 ha
        cases z <;> first | rfl | exact absurd rfl (this _)
      rw [hz] at h2
      simp only [List.map_cons, List.map_nil, hu, List.cons.injEq, and_true] at h2
      rw [← h2]
      exact R_ofC _
    · cases hv

theorem evs_ok (he : EvOK E.nG ρ tm e) : ∀ {l : List Operand} {vs : List AV}, evs E.nG tm l = some vs → RL ρ vs (l.map e)
  | [], vs, h => by simp only [evs, Option.some.injEq] at h; subst h; simp [RL]
  | o :: os, vs, h => by
    simp only [evs] at h
    split at h
    · cases h
    · rename_i v hv
      split at h
      · cases h
      · rename_i vs' hvs
        cases h
        simp only [List.map_cons, RL]
        exact ⟨_, _, rfl, he _ _ hv, evs_ok he hvs⟩

theorem cellA_lt {t : Tr AV} {size : Nat} {d : List AV} {i : Nat} {v : AV} (h : cellA t size d i = some v) : i < size := by
  unfold cellA at h
  split at h
  · cases h
  · rename_i hb; simp [Nat.blt] at hb; omega

/-- Cells that are read. -/
theorem readCells_ok {base : Nat} {t : Tr AV} {size : Nat} {d : List AV} {c : Array Value} (hc : CR ρ base t size d c) :
    ∀ {k off : Nat} {vs : List AV}, readCells t size d k off = some vs → ∃ xs : List Value, xs.length = k ∧ RL ρ vs xs ∧ ∀ j, j < k → c[base + (off + j)]? = xs[j]?
  | 0, off, vs, h => by
    simp only [readCells, Option.some.injEq] at h
    subst h
    exact ⟨[], rfl, by simp [RL], fun j hj => by omega⟩
  | k + 1, off, vs, h => by
    simp only [readCells] at h
    split at h
    · cases h
    · rename_i v hv
      split at h
      · cases h
      · rename_i vs' hvs
        cases h
        obtain ⟨x, hx, hr⟩ := hc _ _ hv
        obtain ⟨xs, h1, h2, h3⟩ := readCells_ok hc hvs
        refine ⟨x :: xs, by simp [h1], by simp only [RL]; exact ⟨_, _, rfl, hr, h2⟩, ?_⟩
        intro j hj
        cases j with
        | zero => simpa using hx
        | succ j =>
          have := h3 j (by omega)
          simp only [List.getElem?_cons_succ]
          rw [← this]
          congr 1
          omega

theorem cell_of {w : World} {b : Nat} {c : Array Value} {t : TypeId} {fr : Nat × Nat} (hb : w.heap[b]? = some (.cells c t fr)) (i : Nat) : w.cell? ⟨b, i, none⟩ = c[i]? := by
  simp [World.cell?, hb]

theorem Addr.add_at (l : Loc) (off j : Nat) : (l.at off).add j = l.at (off + j) := by
  unfold Addr.add Loc.at
  split
  · rename_i hj; subst hj; simp
  · simp; omega

/-- n cells that are loaded. -/
theorem run_read (r : RelQ E.nG ρ h w) {n off k : Nat} {vs : List AV} {l : Loc} (hl : ρ n = some l) (hr : h.read n off k = some vs) :
    ∃ xs : List Value, xs.length = k ∧ RL ρ vs xs ∧ ∀ (j : Nat) (v : Value), xs[j]? = some v → w.cell? ((l.at off).add j) = some v := by
  cases k with
  | zero =>
    simp only [Heap.read, Option.some.injEq] at hr
    subst hr
    exact ⟨[], rfl, by simp [RL], fun j v hv => by simp at hv⟩
  | succ k =>
    simp only [Heap.read] at hr
    split at hr
    · rename_i t size d el es g ho
      obtain ⟨l', h1, h2⟩ := r.obj _ _ ho (by intro h; cases h)
      rw [hl] at h1
      cases h1
      obtain ⟨_, _, _, c, fr, h4, h5, h6, h7⟩ := h2
      obtain ⟨xs, h8, h9, h10⟩ := readCells_ok h7 hr
      refine ⟨xs, h8, h9, fun j v hv => ?_⟩
      have hj : j < k + 1 := by
        rcases Nat.lt_or_ge j (k + 1) with h' | h'
        · exact h'
        · rw [List.getElem?_eq_none (by omega)] at hv; cases hv
      rw [Addr.add_at, Loc.at, cell_of h4, h10 j hj]
      exact hv
    · cases hr

theorem run_loadT (ok : EnvOK P E) (r : RelQ E.nG ρ h w) {t : TypeId} {p v : AV} {x : Value} (hp : R ρ p x) (hv : loadT E h t p = some v) :
    ∃ y, (Instr.loadAt t x).run P w = .ok y w ∧ R ρ v y ∧ (loadVar t (match x with | .pointer (some a) => a | _ => default)).run P w = .ok y w ∧ ∃ a, x = .pointer (some a) := by
  unfold loadT at hv
  split at hv
  · rename_i n off
    simp only [R] at hp
    obtain ⟨l, hl, rfl⟩ := hp
    split at hv
    · cases hv
    · rename_i i hi
      have hT := ok.T _ _ hi
      split at hv
      · rename_i ha
        split at hv
        · rename_i cs hcs
          cases hv
          obtain ⟨xs, h1, h2, h3⟩ := run_read r hl hcs
          have hlc := run_loadCells_list (P := P) (w := w) (l.at off) xs h3
          rw [h1] at hlc
          refine ⟨.agg xs.toArray, ?_, by simp only [R]; exact ⟨xs.toArray, rfl, by simpa using h2⟩, ?_, _, rfl⟩
          · simp [Instr.loadAt, Instr.sureAddr, loadVar, run_isAgg hT, ha, run_sizeOf hT, hlc]
          · simp [loadVar, run_isAgg hT, ha, run_sizeOf hT, hlc]
        · cases hv
      · rename_i ha
        split at hv
        · rename_i u hu
          cases hv
          obtain ⟨xs, h1, h2, h3⟩ := run_read r hl hu
          simp only [RL] at h2
          obtain ⟨b, bs, rfl, h4, rfl⟩ := h2
          have := h3 0 b rfl
          rw [Addr.add_at, Nat.add_zero] at this
          exact ⟨b, by simp [Instr.loadAt, Instr.sureAddr, loadVar, run_isAgg hT, ha, run_load, this], h4, by simp [loadVar, run_isAgg hT, ha, run_load, this], _, rfl⟩
        · cases hv
  · cases hv

theorem sizeT_ok (ok : EnvOK P E) {t : TypeId} {s : Nat} (h : sizeT E t = some s) : (sizeOf t).run P w = .ok s w := by
  unfold sizeT at h
  split at h
  · rename_i i hi
    cases h
    exact run_sizeOf (ok.T _ _ hi)
  · cases h

theorem cellsOf_ok {v : AV} {x : Value} (hv : R ρ v x) (h1 : boxable v = true) : RL ρ (cellsOf v) x.cells.toList := by
  have one : ∀ {v : AV} {x : Value}, R ρ v x → (∀ cs, x ≠ .agg cs) → RL ρ [v] x.cells.toList := by
    intro v x hv hx
    have : x.cells = #[x] := by cases x <;> first | rfl | exact absurd rfl (hx _)
    rw [this]
    simp only [RL]
    exact ⟨x, [], rfl, hv, rfl⟩
  cases v with
  | agg cs => simp only [R] at hv; obtain ⟨cs', rfl, h⟩ := hv; exact h
  | any => simp [boxable] at h1
  | sc v =>
    have hv' := hv
    simp only [R] at hv
    subst hv
    refine one hv' fun cs hcs => ?_
    subst hcs
    simp [boxable] at h1
  | slc n off len cap =>
    refine one hv fun cs hcs => ?_
    subst hcs
    simp only [R] at hv
    obtain ⟨l, _, h⟩ := hv
    cases cap with
    | none => obtain ⟨_, _, h⟩ := h; cases h
    | some k => cases h
  | _ =>
    refine one hv fun cs hcs => ?_
    subst hcs
    simp only [R] at hv
    simp at hv
end
end Go.Eng

/- The engine: what is equal. -/
namespace Go.Eng
section
variable {P : Program} {E : Env} {ρ : Ren} {h : Heap} {w : World} {tm : Tr AV} {e : Operand → Value}

theorem natsEq_iff : ∀ {a b : List Nat}, natsEq a b = true ↔ a = b
  | [], [] => by simp [natsEq]
  | [], b :: y => by simp [natsEq]
  | a :: x, [] => by simp [natsEq]
  | a :: x, b :: y => by
    simp only [natsEq]
    cases hb : Nat.beq a b with
    | true => simp only [Nat.beq_eq] at hb; subst hb; simp [natsEq_iff]
    | false =>
      have : a ≠ b := fun h => by subst h; simp at hb
      simp [this]

theorem toB_inj {a b : List Nat} (ha : ∀ n ∈ a, n < 256) (hb : ∀ n ∈ b, n < 256) (h : toB a = toB b) : a = b := by
  have h' : a.map UInt8.ofNat = b.map UInt8.ofNat := by
    simp only [toB, ByteArray.mk.injEq] at h
    simpa using congrArg Array.toList h
  have key : ∀ (l : List Nat), (∀ n ∈ l, n < 256) → (l.map UInt8.ofNat).map UInt8.toNat = l := by
    intro l hl
    rw [List.map_map]
    conv => rhs; rw [← List.map_id l]
    refine List.map_congr_left fun n hn => ?_
    simp only [Function.comp, id]
    exact UInt8.toNat_ofNat_of_lt' (hl n hn)
  rw [← key a ha, ← key b hb, h']

theorem natsEq_toB {a b : List Nat} (ha : ∀ n ∈ a, n < 256) (hb : ∀ n ∈ b, n < 256) : natsEq a b = ((toB a).toList == (toB b).toList) := by
  have h1 : (toB a).toList = a.map UInt8.ofNat := by simp [toB]
  have h2 : (toB b).toList = b.map UInt8.ofNat := by simp [toB]
  cases hn : natsEq a b with
  | true => rw [natsEq_iff.1 hn]; simp
  | false =>
    have : a ≠ b := fun h => by rw [natsEq_iff.2 h] at hn; cases hn
    symm
    rw [beq_eq_false_iff_ne]
    intro h
    exact this (toB_inj ha hb (by rw [h1, h2] at h; simp [toB, h]))

theorem natsLess_toB : ∀ {a b : List Nat}, (∀ n ∈ a, n < 256) → (∀ n ∈ b, n < 256) → natsLess a b = Op.bytesLess (a.map UInt8.ofNat) (b.map UInt8.ofNat)
  | a, [], _, _ => by cases a <;> simp [natsLess, Op.bytesLess]
  | [], b :: y, _, _ => by simp [natsLess, Op.bytesLess]
  | a :: x, b :: y, ha, hb => by
    have ha0 : a < 256 := ha a (by simp)
    have hb0 : b < 256 := hb b (by simp)
    have e1 : (UInt8.ofNat a < UInt8.ofNat b) ↔ a < b := by
      rw [UInt8.lt_iff_toNat_lt, UInt8.toNat_ofNat_of_lt' ha0, UInt8.toNat_ofNat_of_lt' hb0]
    have e2 : (UInt8.ofNat a = UInt8.ofNat b) ↔ a = b := by
      constructor
      · intro h
        have := congrArg UInt8.toNat h
        rwa [UInt8.toNat_ofNat_of_lt' ha0, UInt8.toNat_ofNat_of_lt' hb0] at this
      · rintro rfl; rfl
    simp only [natsLess, List.map_cons, Op.bytesLess]
    rw [natsLess_toB (a := x) (b := y) (fun n hn => ha n (by simp [hn])) (fun n hn => hb n (by simp [hn]))] 
    by_cases h1 : a < b
    · have : Nat.blt a b = true := by rw [Nat.blt_eq]; exact h1
      simp [this, e1.2 h1]
    · have h1' : Nat.blt a b = false := by rw [← Bool.not_eq_true, Nat.blt_eq]; exact h1
      have h1'' : ¬ UInt8.ofNat a < UInt8.ofNat b := fun h => h1 (e1.1 h)
      simp only [h1', h1'', decide_false, Bool.false_or]
      by_cases h2 : a = b
      · subst h2; simp
      · have : Nat.beq a b = false := by rw [← Bool.not_eq_true, Nat.beq_eq]; exact h2
        have h2' : ¬ UInt8.ofNat a = UInt8.ofNat b := fun h => h2 (e2.1 h)
        simp [this, h2']

theorem part_ok (ok : EnvOK P E) {t : TypeId} {cs : List AV} {xs : Array Value} {off : Nat} {v : AV} (hc : RL ρ cs xs.toList) (hp : partOf E t cs off = some v) :
    ∃ y, (part t xs off).run P w = .ok y w ∧ R ρ v y := by
  unfold partOf at hp
  split at hp
  · cases hp
  · rename_i i hi
    have hT := ok.T _ _ hi
    split at hp
    · rename_i ha
      split at hp
      · rename_i hb
        cases hp
        refine ⟨.agg (xs.extract off (off + i.size)), by simp [part, run_isAgg hT, ha, run_sizeOf hT], ?_⟩
        simp only [R]
        refine ⟨_, rfl, ?_⟩
        have := RL_take i.size (RL_drop off hc)
        simpa [Array.toList_extract, List.extract_eq_take_drop] using this
      · cases hp
    · rename_i ha
      obtain ⟨y, hy, hr⟩ := RL_get hc hp
      refine ⟨y, ?_, hr⟩
      have : xs[off]? = some y := by simpa using hy
      simp [part, run_isAgg hT, ha, this]

theorem slcV_some {l : Loc} {off len : Nat} {cap : Option Nat} {x : Value} (h : slcV l off len cap x) : ∃ a c, x = .slice (some a) len c := by
  cases cap with
  | none => obtain ⟨_, _, h⟩ := h; exact ⟨_, _, h⟩
  | some k => exact ⟨_, _, h⟩

theorem sameAddr_at (l : Loc) (o o' : Nat) : (sameAddr (l.at o) (l.at o')).run P w = .ok (o == o') w := by
  have : (l.at o == l.at o') = (o == o') := by
    cases h : (o == o') with
    | true => simp at h; subst h; simp
    | false => simp at h; simp [Loc.at, h]
  simp [sameAddr, this]
  simp [Loc.at]

theorem eqFields_ok (ok : EnvOK P E) {d : Nat} (ih : ∀ {t : TypeId} {x y : AV} {x' y' : Value} {b : Bool}, R ρ x x' → R ρ y y' → aeq E h d t x y = some b → (Op.equalIn d t x' y').run P w = .ok b w)
    {xs ys : List AV} {xs' ys' : Array Value} (h1 : RL ρ xs xs'.toList) (h2 : RL ρ ys ys'.toList) : ∀ {fs : List Field} {b : Bool},
    allM (fun (f : Field) => if f.name = "_" then some true else match partOf E f.type xs f.offset, partOf E f.type ys f.offset with
          | some a, some b => aeq E h d f.type a b
          | _, _ => none) fs = some b → (Op.eqFields d xs' ys' fs).run P w = .ok b w
  | [], b, hq => by simp only [allM, Option.some.injEq] at hq; subst hq; simp [Op.eqFields]
  | f :: fs, b, hq => by
    simp only [allM] at hq
    by_cases hn : f.name = "_"
    · simp only [hn, if_true] at hq
      simp only [Op.eqFields, hn, ne_eq, not_true_eq_false, if_false]
      exact eqFields_ok ok ih h1 h2 hq
    · simp only [hn, if_false] at hq
      simp only [Op.eqFields, ne_eq, hn, not_false_eq_true, if_true]
      cases hp1 : partOf E f.type xs f.offset with
      | none => simp [hp1] at hq
      | some a =>
        cases hp2 : partOf E f.type ys f.offset with
        | none => simp [hp1, hp2] at hq
        | some c =>
          simp only [hp1, hp2] at hq
          obtain ⟨a', ha, hra⟩ := part_ok (w := w) ok h1 hp1
          obtain ⟨c', hc, hrc⟩ := part_ok (w := w) ok h2 hp2
          cases he : aeq E h d f.type a c with
          | none => simp [he] at hq
          | some r =>
            simp only [he] at hq
            have hi := ih hra hrc he
            cases r with
            | false => simp only [Option.some.injEq] at hq; subst hq; simp [ha, hc, hi]
            | true => simp [ha, hc, hi]; exact eqFields_ok ok ih h1 h2 hq

theorem eqElems_ok (ok : EnvOK P E) {d : Nat} (ih : ∀ {t : TypeId} {x y : AV} {x' y' : Value} {b : Bool}, R ρ x x' → R ρ y y' → aeq E h d t x y = some b → (Op.equalIn d t x' y').run P w = .ok b w)
    {et n : Nat} {xs ys : List AV} {xs' ys' : Array Value} (h1 : RL ρ xs xs'.toList) (h2 : RL ρ ys ys'.toList) : ∀ {ks : List Nat} {b : Bool},
    allM (fun k => match partOf E et xs (k * n), partOf E et ys (k * n) with
          | some a, some b => aeq E h d et a b
          | _, _ => none) ks = some b →
    (forIn ks ((none, ()) : Option Bool × Unit) fun i (_ : Option Bool × Unit) => (do
        let a ← part et xs' (i * n)
        let c ← part et ys' (i * n)
        let r ← Op.equalIn d et a c
        if (!r) = true then pure (ForInStep.done (some false, ())) else pure (ForInStep.yield (none, ())) : Sem (ForInStep (Option Bool × Unit)))).run P w =
      .ok (if b then none else some false, ()) w
  | [], b, hq => by simp only [allM, Option.some.injEq] at hq; subst hq; simp
  | f :: fs, b, hq => by
    simp only [allM] at hq
    cases hp1 : partOf E et xs (f * n) with
    | none => simp [hp1] at hq
    | some a =>
      cases hp2 : partOf E et ys (f * n) with
      | none => simp [hp1, hp2] at hq
      | some c =>
        simp only [hp1, hp2] at hq
        obtain ⟨a', ha, hra⟩ := part_ok (w := w) ok h1 hp1
        obtain ⟨c', hc, hrc⟩ := part_ok (w := w) ok h2 hp2
        cases he : aeq E h d et a c with
        | none => simp [he] at hq
        | some r =>
          simp only [he] at hq
          have hi := ih hra hrc he
          cases r with
          | false => simp only [Option.some.injEq] at hq; subst hq; simp [ha, hc, hi]
          | true => simp only [List.forIn_cons, Sem.run_bind, ha, hc, hi, Result.andThen_ok]; simpa using eqElems_ok ok ih h1 h2 hq

theorem eqArray_ok (ok : EnvOK P E) {d : Nat} (ih : ∀ {t : TypeId} {x y : AV} {x' y' : Value} {b : Bool}, R ρ x x' → R ρ y y' → aeq E h d t x y = some b → (Op.equalIn d t x' y').run P w = .ok b w)
    {t et len : Nat} {ei : TI} {xs ys : List AV} {xs' ys' : Array Value} {b : Bool} (hu : P.underlying t = some (.array len et)) (hei : E.T.get et = some ei) (h1 : RL ρ xs xs'.toList) (h2 : RL ρ ys ys'.toList)
    (hq : allM (fun k => match partOf E et xs (k * ei.size), partOf E et ys (k * ei.size) with
          | some a, some b => aeq E h d et a b
          | _, _ => none) (List.range len) = some b) : (Op.equalIn (d + 1) t (.agg xs') (.agg ys')).run P w = .ok b w := by
  have key := eqElems_ok ok ih h1 h2 hq
  rw [Op.equalIn]
  simp only [Sem.run_bind, run_underlying hu, Result.andThen_ok, run_sizeOf (ok.T _ _ hei)]
  rw [Std.Legacy.Range.forIn_eq_forIn_range']
  have hr : List.range' [:len].start [:len].size [:len].step = List.range len := by simp [Std.Legacy.Range.size, List.range_eq_range']
  rw [hr]
  exact (congrArg (fun r => Result.andThen r _) key).trans (by cases b <;> rfl)

set_option maxHeartbeats 1000000 in
theorem aeq_sound (ok : EnvOK P E) (d : Nat) : ∀ {t : TypeId} {x y : AV} {x' y' : Value} {b : Bool}, R ρ x x' → R ρ y y' → aeq E h d t x y = some b →
    (Op.equalIn d t x' y').run P w = .ok b w := by
  induction d with
  | zero => intro t x y x' y' b _ _ hq; simp [aeq] at hq
  | succ d ih =>
    intro t x y x' y' b hx hy hq
    simp only [aeq] at hq
    split at hq
    · cases hq
    · rename_i i hi
      have hT := ok.T _ _ hi
      have hu := hT.und
      split at hq
      all_goals rename_i hdesc
      all_goals try rw [hdesc] at hu
      all_goals try (simp only [R] at hx hy)
      · cases hq; subst hx; subst hy; simp [Op.equalIn, run_underlying hu]
      · subst hx; subst hy
        split at hq
        · rename_i hk; subst hk; cases hq; simp [Op.equalIn, run_underlying hu]
        · cases hq
      · cases hq
        obtain ⟨rfl, h1⟩ := hx
        obtain ⟨rfl, h2⟩ := hy
        rw [run_equalIn_string w d t _ _ hu, natsEq_toB h1 h2]
      · subst hx; subst hy
        split at hq
        · rename_i hk; subst hk; cases hq; simp [Op.equalIn, run_underlying hu]
        · cases hq
      · subst hx; subst hy
        split at hq
        · rename_i hk; subst hk; cases hq; simp [Op.equalIn, run_underlying hu]
        · cases hq
      · cases hq; subst hx; subst hy; simp [Op.equalIn, run_underlying hu]
      · cases hq; subst hx; obtain ⟨l, _, rfl⟩ := hy; simp [Op.equalIn, run_underlying hu]
      · cases hq; subst hy; obtain ⟨l, _, rfl⟩ := hx; simp [Op.equalIn, run_underlying hu]
      · obtain ⟨l, hl, rfl⟩ := hx
        obtain ⟨l', hl', rfl⟩ := hy
        split at hq
        · cases hq
        · rename_i ei hei
          split at hq
          · cases hq
          · rename_i hs
            split at hq
            · rename_i hn
              subst hn
              rw [hl] at hl'
              cases hl'
              cases hq
              simp [Op.equalIn, run_underlying hu, run_sizeOf (ok.T _ _ hei), hs, sameAddr_at]
            · cases hq
      · cases hq; subst hx; subst hy; simp [Op.equalIn, run_underlying hu]
      · cases hq; subst hx; obtain ⟨v', rfl, _⟩ := hy; simp [Op.equalIn, run_underlying hu]
      · cases hq; subst hy; obtain ⟨v', rfl, _⟩ := hx; simp [Op.equalIn, run_underlying hu]
      · obtain ⟨x1, rfl, h1⟩ := hx
        obtain ⟨y1, rfl, h2⟩ := hy
        split at hq
        · rename_i hs
          subst hs
          split at hq
          · rename_i si hsi
            split at hq
            · rename_i hc
              obtain ⟨ti, z, g1, g2, g3, g4, _⟩ := (ok.T _ _ hsi).info
              rw [hc] at g4
              simp [Op.equalIn, run_underlying hu, run_typeInfo g1, g4, ih h1 h2 hq]
            · cases hq
          · cases hq
        · rename_i hs
          cases hq
          simp [Op.equalIn, run_underlying hu, hs]
      · obtain ⟨xs, rfl, h1⟩ := hx
        obtain ⟨ys, rfl, h2⟩ := hy
        split at hq
        · cases hq
        · rename_i hst
          rw [run_equalIn_struct w d t xs ys (by simp [Program.fieldsOf, hu]) (by rw [← hT.stood]; exact hst)]
          have key := eqFields_ok ok ih h1 h2 hq
          simpa [Program.fieldsOf, hu] using key
      · obtain ⟨xs, rfl, h1⟩ := hx
        obtain ⟨ys, rfl, h2⟩ := hy
        split at hq
        · cases hq
        · rename_i ei hei
          exact eqArray_ok ok ih hu hei h1 h2 hq
      · cases hq; subst hx; subst hy; simp [Op.equalIn, run_underlying hu]
      · cases hq; subst hx; obtain ⟨l, _, hs⟩ := hy; obtain ⟨a, c, rfl⟩ := slcV_some hs; simp [Op.equalIn, run_underlying hu]
      · cases hq; subst hy; obtain ⟨l, _, hs⟩ := hx; obtain ⟨a, c, rfl⟩ := slcV_some hs; simp [Op.equalIn, run_underlying hu]
      · cases hq; subst hy; obtain ⟨a, c, rfl⟩ := hx; simp [Op.equalIn, run_underlying hu]
      · cases hq; subst hx; subst hy; simp [Op.equalIn, run_underlying hu]
      · cases hq; subst hx; obtain ⟨l, _, rfl⟩ := hy; simp [Op.equalIn, run_underlying hu]
      · cases hq; subst hy; obtain ⟨l, _, rfl⟩ := hx; simp [Op.equalIn, run_underlying hu]
      · cases hq; subst hx; subst hy; simp [Op.equalIn, run_underlying hu]
      · cases hq; subst hx; obtain ⟨a', b', rfl, _⟩ := hy; simp [Op.equalIn, run_underlying hu]
      · cases hq; subst hy; obtain ⟨a', b', rfl, _⟩ := hx; simp [Op.equalIn, run_underlying hu]
      · cases hq; subst hy; obtain ⟨a', _, rfl⟩ := hx; simp [Op.equalIn, run_underlying hu]
      · cases hq
end
end Go.Eng

/- The engine: operations on two operands, on one; conversions. -/
namespace Go.Eng
section
variable {P : Program} {E : Env} {ρ : Ren} {h : Heap} {w : World} {tm : Tr AV} {e : Operand → Value}

theorem wrapI_eq (k : IntKind) (n : Int) : wrapI k n = k.wrap n := by
  unfold wrapI
  split
  · rename_i m
    split
    · rename_i hm
      rw [Nat.blt_eq] at hm
      cases k <;> simp only [] at hm <;> simp only [IntKind.wrap, IntKind.bits, IntKind.signed] <;> simp <;> omega
    · rfl
  · rfl

theorem pureSem_ok {s : Sem Value} {v : AV} (hv : pureSem s = some v) : ∃ x, s.run P w = .ok x w ∧ R ρ v x := by
  unfold pureSem at hv
  split at hv
  · rename_i u
    split at hv
    · cases hv
    · cases hv
    · cases hv
    · cases hv
    · cases hv
      exact ⟨u, rfl, by simp [R]⟩
  · cases hv

theorem sc_ok {s : Sem Value} {v : Value} (hs : s.run P w = .ok v w) : ∃ x, s.run P w = .ok x w ∧ R ρ (.sc v) x := ⟨v, hs, by simp [R]⟩

theorem intBin_ok {op : BinOp} {k : IntKind} {a b : Int} {t : TypeId} {v : AV} (hv : intBin op k a b = some v) :
    ∃ x, (binOp op t (.int k a) (.int k b)).run P w = .ok x w ∧ R ρ v x := by
  unfold intBin at hv
  split at hv
  · cases hv; refine sc_ok ?_; simp [binOp, Op.intArith, wrapI_eq]
  · cases hv; refine sc_ok ?_; simp [binOp, Op.intArith, wrapI_eq]
  · cases hv; refine sc_ok ?_; simp [binOp, Op.intArith, wrapI_eq]
  · split at hv
    · cases hv
    · rename_i hb; cases hv; refine sc_ok ?_; simp [binOp, Op.intDiv, hb, wrapI_eq]
  · split at hv
    · cases hv
    · rename_i hb; cases hv; refine sc_ok ?_; simp [binOp, Op.intDiv, hb]
  · simpa [binOp] using pureSem_ok hv
  · simpa [binOp] using pureSem_ok hv
  · simpa [binOp] using pureSem_ok hv
  · simpa [binOp] using pureSem_ok hv
  · cases hv; refine sc_ok ?_; simp [binOp, Op.intCmp]; rfl
  · cases hv; refine sc_ok ?_; simp [binOp, Op.intCmp]; rfl
  · cases hv; refine sc_ok ?_; simp [binOp, Op.intCmp]
  · cases hv; refine sc_ok ?_; simp [binOp, Op.intCmp]
  · cases hv; refine sc_ok ?_; simp [binOp, Op.intCmp]
  · cases hv; refine sc_ok ?_; simp [binOp, Op.intCmp]
  · cases hv

theorem toB_append (a b : List Nat) : toB a ++ toB b = toB (a ++ b) := by
  simp [toB, ByteArray.mk_append_mk]

theorem size_toB (a : List Nat) : (toB a).size = a.length := by simp [toB, ByteArray.size]

theorem strBin_ok {op : BinOp} {a b : List Nat} {t : TypeId} {v : AV} (ha : ∀ n ∈ a, n < 256) (hb : ∀ n ∈ b, n < 256) (hv : strBin op a b = some v) :
    ∃ x, (binOp op t (.string (toB a)) (.string (toB b))).run P w = .ok x w ∧ R ρ v x := by
  have la : (toB a).toList = a.map UInt8.ofNat := by simp [toB]
  have lb : (toB b).toList = b.map UInt8.ofNat := by simp [toB]
  have he := natsEq_toB ha hb
  have hl := natsLess_toB ha hb
  rw [← la, ← lb] at hl
  unfold strBin at hv
  split at hv
  · split at hv
    · rename_i hlt
      rw [Nat.blt_eq] at hlt
      cases hv
      refine ⟨_, by simp only [binOp]; exact run_string_add_sum w _ _ (by rw [size_toB, size_toB]; omega), ?_⟩
      simp only [R]
      refine ⟨by rw [toB_append], fun n hn => ?_⟩
      rcases List.mem_append.1 hn with h | h
      · exact ha n h
      · exact hb n h
    · cases hv
  all_goals first
    | (cases hv; refine sc_ok ?_; simp [binOp, Op.stringOp, he, hl])
    | cases hv

theorem R_nilIface {a : AV} {x : Value} (ha : R ρ a x) (hne : a ≠ .any) (hx : x = .nilIface) : a = .sc .nilIface := by
  subst hx
  cases a with
  | sc v => simp only [R] at ha; rw [ha]
  | slc n off len cap => simp only [R] at ha; obtain ⟨l, _, hs⟩ := ha; obtain ⟨_, _, h⟩ := slcV_some hs; cases h
  | any => exact absurd rfl hne
  | _ => simp only [R] at ha; simp at ha

theorem R_agg {a : AV} {cs : Array Value} (ha : R ρ a (.agg cs)) (hne : a ≠ .any) : (∃ l, a = .agg l) ∨ a = .sc (.agg cs) := by
  cases a with
  | sc v => simp only [R] at ha; rw [ha]; exact .inr rfl
  | agg l => exact .inl ⟨l, rfl⟩
  | slc n off len cap => simp only [R] at ha; obtain ⟨l, _, hs⟩ := ha; obtain ⟨_, _, h⟩ := slcV_some hs; cases h
  | any => exact absurd rfl hne
  | _ => simp only [R] at ha; simp at ha

theorem guard_ok (ok : EnvOK P E) {op : BinOp} {t : TypeId} {x y : Operand} {a b : AV} {a' b' : Value} (ha : R ρ a a') (hb : R ρ b b')
    (hg : guardOk E t x y a b = true) : (eqGuard op t x y a' b').run P w = .ok () w := by
  have na : a ≠ .any := by rintro rfl; cases b <;> simp [guardOk] at hg
  have nb : b ≠ .any := by
    rintro rfl
    cases a <;> first | (simp [guardOk] at hg; done) | (rename_i v; cases v <;> simp [guardOk] at hg)
  by_cases h1 : a' = .nilIface ∧ b' = .nilIface
  · obtain ⟨rfl, rfl⟩ := h1
    have e1 := R_nilIface ha na rfl
    have e2 := R_nilIface hb nb rfl
    subst e1; subst e2
    simp only [guardOk, Bool.or_eq_true] at hg
    have hxy : ((match x with | .const _ => true | _ => false) || (match y with | .const _ => true | _ => false)) = true := by
      rcases hg with h | h
      · cases x <;> simp [isConst] at h ⊢
      · cases y <;> simp [isConst] at h ⊢
    cases op <;> first
      | rfl
      | (simp only [eqGuard]; cases x <;> cases y <;> first | rfl | (simp at hxy; done))
  · by_cases h2 : ∃ cs ds, a' = .agg cs ∧ b' = .agg ds
    · obtain ⟨cs, ds, rfl, rfl⟩ := h2
      rcases R_agg ha na with ⟨l, rfl⟩ | rfl
      · rcases R_agg hb nb with ⟨m, rfl⟩ | rfl
        · simp only [guardOk] at hg
          split at hg
          · rename_i i hi
            exact run_eqGuard_agg w op t x y cs ds (by rw [← (ok.T _ _ hi).eqg]; simpa using hg)
          · cases hg
        · simp [guardOk] at hg
      · cases b <;> simp [guardOk] at hg
    · cases op <;> first
        | rfl
        | (simp only [eqGuard]
           cases a' <;> cases b' <;> first | rfl | exact (h1 ⟨rfl, rfl⟩).elim | exact (h2 ⟨_, _, rfl, rfl⟩).elim)

/-- '==' and '!=' where no operator of a kind's own stands ahead. -/
theorem binOp_eql_equal {t : TypeId} {a b : Value} {r : Bool} (h : (Op.equal t a b).run P w = .ok r w)
    (hi : ∀ k n k' n', a = .int k n → b = .int k' n' → False) (hf : ∀ k n k' n', a = .float k n → b = .float k' n' → False)
    (hc : ∀ k n m k' n' m', a = .complex k n m → b = .complex k' n' m' → False) (hs : ∀ s s', a = .string s → b = .string s' → False) :
    (binOp .eql t a b).run P w = .ok (.bool r) w ∧ (binOp .neq t a b).run P w = .ok (.bool (!r)) w := by
  cases a <;> cases b <;> first
    | exact (hi _ _ _ _ rfl rfl).elim
    | exact (hf _ _ _ _ rfl rfl).elim
    | exact (hc _ _ _ _ _ _ rfl rfl).elim
    | exact (hs _ _ rfl rfl).elim
    | (simp only [binOp]; simp [h])

theorem aeq_scstr_left {d : Nat} {t : TypeId} {s : ByteArray} {b : AV} : aeq E h d t (.sc (.string s)) b = none := by
  cases d with
  | zero => rfl
  | succ d =>
    simp only [aeq]
    split
    · rfl
    · split <;> simp_all

theorem aeq_scstr_right {d : Nat} {t : TypeId} {s : ByteArray} {a : AV} : aeq E h d t a (.sc (.string s)) = none := by
  cases d with
  | zero => rfl
  | succ d =>
    simp only [aeq]
    split
    · rfl
    · split <;> simp_all

set_option maxHeartbeats 1000000 in
theorem abin_ok (ok : EnvOK P E) {op : BinOp} {t : TypeId} {x y : Operand} {a b v : AV} {a' b' : Value} (ha : R ρ a a') (hb : R ρ b b')
    (hv : abin E h op t x y a b = some v) : ∃ z, (do eqGuard op t x y a' b'; binOp op t a' b').run P w = .ok z w ∧ R ρ v z := by
  unfold abin at hv
  split at hv
  · rename_i k m k' n
    simp only [R] at ha hb
    subst ha; subst hb
    have hg : (eqGuard op t x y (.int k m) (.int k' n)).run P w = .ok () w := by rw [eqGuard_at_int]; rfl
    simp only [Sem.run_bind, hg, Result.andThen_ok]
    split at hv
    · split at hv
      · cases hv
      · simpa [binOp] using pureSem_ok hv
    · split at hv
      · cases hv
      · simpa [binOp] using pureSem_ok hv
    · split at hv
      · rename_i hk
        subst hk
        exact intBin_ok hv
      · cases hv
  · rename_i k m k' n
    simp only [R] at ha hb
    subst ha; subst hb
    have hg : (eqGuard op t x y (.float k m) (.float k' n)).run P w = .ok () w := by rw [eqGuard_at_float]; rfl
    simp only [Sem.run_bind, hg, Result.andThen_ok]
    split at hv
    · exact pureSem_ok hv
    · cases hv
  · rename_i k m n k' m' n'
    simp only [R] at ha hb
    subst ha; subst hb
    have hg : (eqGuard op t x y (.complex k m n) (.complex k' m' n')).run P w = .ok () w := by rw [eqGuard_at_complex]; rfl
    simp only [Sem.run_bind, hg, Result.andThen_ok]
    split at hv
    · exact pureSem_ok hv
    · cases hv
  · rename_i m n
    simp only [R] at ha hb
    obtain ⟨rfl, h1⟩ := ha
    obtain ⟨rfl, h2⟩ := hb
    have hg : (eqGuard op t x y (.string (toB m)) (.string (toB n))).run P w = .ok () w := by rw [eqGuard_at_string]; rfl
    simp only [Sem.run_bind, hg, Result.andThen_ok]
    exact strBin_ok h1 h2 hv
  · rename_i hn1 hn2 hn3 hn4
    split at hv
    · rename_i hgo
      simp only [Sem.run_bind, guard_ok ok ha hb hgo, Result.andThen_ok]
      have na : a ≠ .any := by rintro rfl; cases b <;> simp [guardOk] at hgo
      have nb : b ≠ .any := by
        rintro rfl
        cases a <;> first | (simp [guardOk] at hgo; done) | (rename_i v; cases v <;> simp [guardOk] at hgo)
      have nsc : ∀ {a : AV} {v : Value}, R ρ a v → a ≠ .any → (∀ s, v ≠ .string s) → (∀ cs, v ≠ .agg cs) → (∀ t u, v ≠ .iface t u) → (∀ l, v ≠ .tuple l) → (∀ c l m, v ≠ .slice c l m) →
          (∀ c, v ≠ .pointer c) → (∀ c, v ≠ .map c) → (∀ f c l, v ≠ .func f c l) → a = .sc v := by
        intro a v hr hne h1 h2 h3 h4 h5 h6 h7 h8
        cases a with
        | sc u => simp only [R] at hr; rw [hr]
        | any => exact absurd rfl hne
        | str l => simp only [R] at hr; exact absurd hr.1 (h1 _)
        | ptr n o => simp only [R] at hr; obtain ⟨l, _, e⟩ := hr; exact absurd e (h6 _)
        | slc n off len cap => simp only [R] at hr; obtain ⟨l, _, hs⟩ := hr; obtain ⟨_, _, e⟩ := slcV_some hs; exact absurd e (h5 _ _ _)
        | emp => simp only [R] at hr; obtain ⟨_, _, e⟩ := hr; exact absurd e (h5 _ _ _)
        | mp n => simp only [R] at hr; obtain ⟨l, _, e⟩ := hr; exact absurd e (h7 _)
        | fn f a b => simp only [R] at hr; obtain ⟨_, _, e, _⟩ := hr; exact absurd e (h8 _ _ _)
        | yld n => simp only [R] at hr; obtain ⟨_, _, e⟩ := hr; exact absurd e (h8 _ _ _)
        | ifc t v => simp only [R] at hr; obtain ⟨_, e, _⟩ := hr; exact absurd e (h3 _ _)
        | agg cs => simp only [R] at hr; obtain ⟨_, e, _⟩ := hr; exact absurd e (h2 _)
        | tup cs => simp only [R] at hr; obtain ⟨_, e, _⟩ := hr; exact absurd e (h4 _)
      have main : ∀ r, aeq E h 10000 t a b = some r → (binOp .eql t a' b').run P w = .ok (.bool r) w ∧ (binOp .neq t a' b').run P w = .ok (.bool (!r)) w := by
        intro r hr
        refine binOp_eql_equal (aeq_sound ok 10000 ha hb hr) ?_ ?_ ?_ ?_
        · rintro k n k' n' rfl rfl
          exact hn1 _ _ _ _ (nsc ha na (by simp) (by simp) (by simp) (by simp) (by simp) (by simp) (by simp) (by simp)) (nsc hb nb (by simp) (by simp) (by simp) (by simp) (by simp) (by simp) (by simp) (by simp))
        · rintro k n k' n' rfl rfl
          exact hn2 _ _ _ _ (nsc ha na (by simp) (by simp) (by simp) (by simp) (by simp) (by simp) (by simp) (by simp)) (nsc hb nb (by simp) (by simp) (by simp) (by simp) (by simp) (by simp) (by simp) (by simp))
        · rintro k n m k' n' m' rfl rfl
          exact hn3 _ _ _ _ _ _ (nsc ha na (by simp) (by simp) (by simp) (by simp) (by simp) (by simp) (by simp) (by simp)) (nsc hb nb (by simp) (by simp) (by simp) (by simp) (by simp) (by simp) (by simp) (by simp))
        · rintro s s' rfl rfl
          have hstr : ∀ {a : AV} {s : ByteArray}, R ρ a (.string s) → a ≠ .any → (∃ l, a = .str l) ∨ a = .sc (.string s) := by
            intro a s hr hne
            cases a with
            | str l => exact .inl ⟨l, rfl⟩
            | sc u => simp only [R] at hr; rw [hr]; exact .inr rfl
            | any => exact absurd rfl hne
            | slc n off len cap => simp only [R] at hr; obtain ⟨l, _, hs⟩ := hr; obtain ⟨_, _, e⟩ := slcV_some hs; cases e
            | _ => simp only [R] at hr; simp at hr
          rcases hstr ha na with ⟨l, rfl⟩ | rfl
          · rcases hstr hb nb with ⟨l', rfl⟩ | rfl
            · exact hn4 _ _ rfl rfl
            · rw [aeq_scstr_right] at hr; cases hr
          · rw [aeq_scstr_left] at hr; cases hr
      split at hv
      · split at hv
        · rename_i r hr; cases hv; exact ⟨_, (main r hr).1, by simp [R]⟩
        · cases hv
      · split at hv
        · rename_i r hr; cases hv; exact ⟨_, (main r hr).2, by simp [R]⟩
        · cases hv
      · cases hv
    · cases hv
end
end Go.Eng

/- The engine: conversions and builtins that leave the memory as it is. -/
namespace Go.Eng
section
variable {P : Program} {E : Env} {ρ : Ren} {h : Heap} {w : World} {tm : Tr AV} {e : Operand → Value}

theorem bytesOf_ok : ∀ {cs : List AV} {bs : List Nat} {xs : List Value}, bytesOf cs = some bs → RL ρ cs xs → xs = (bs.map fun (n : Nat) => Value.int .u8 (n : Int)) ∧ ∀ n ∈ bs, n < 256
  | [], bs, xs, hb, hx => by
    simp only [bytesOf, Option.some.injEq] at hb
    simp only [RL] at hx
    subst hb; subst hx
    simp
  | v :: l, bs, xs, hb, hx => by
    simp only [RL] at hx
    obtain ⟨b, bs', rfl, h1, h2⟩ := hx
    simp only [bytesOf] at hb
    split at hb
    · rename_i n
      split at hb
      · rename_i hn
        rw [Nat.blt_eq] at hn
        split at hb
        · rename_i r hr
          cases hb
          obtain ⟨h3, h4⟩ := bytesOf_ok hr h2
          simp only [R] at h1
          subst h1
          refine ⟨by rw [h3]; rfl, ?_⟩
          intro m hm
          rcases List.mem_cons.1 hm with rfl | hm
          · exact hn
          · exact h4 m hm
        · cases hb
      · cases hb
    · cases hb

theorem foldl_push (l : List UInt8) : ∀ (s : ByteArray), l.foldl (fun r b => r.push b) s = s ++ ⟨l.toArray⟩ := by
  induction l with
  | nil =>
    intro s
    obtain ⟨⟨d⟩⟩ := s
    show _ = ByteArray.mk d.toArray ++ ByteArray.mk [].toArray
    rw [ByteArray.mk_append_mk]
    simp
  | cons a l ih =>
    intro s
    simp only [List.foldl_cons]
    rw [ih]
    obtain ⟨⟨d⟩⟩ := s
    have : (ByteArray.push ⟨⟨d⟩⟩ a) = ⟨(d ++ [a]).toArray⟩ := by simp [ByteArray.push]
    rw [this]
    show ByteArray.mk (d ++ [a]).toArray ++ ByteArray.mk l.toArray = ByteArray.mk d.toArray ++ ByteArray.mk (a :: l).toArray
    rw [ByteArray.mk_append_mk, ByteArray.mk_append_mk]
    simp

theorem bytes_fold (bs : List Nat) : (bs.map fun (n : Nat) => (n : Int)).foldl (fun (r : ByteArray) n => r.push (UInt8.ofNat n.toNat)) ByteArray.empty = toB bs := by
  have : (bs.map fun (n : Nat) => (n : Int)).foldl (fun (r : ByteArray) n => r.push (UInt8.ofNat n.toNat)) ByteArray.empty =
      (bs.map UInt8.ofNat).foldl (fun r b => r.push b) ByteArray.empty := by
    rw [List.foldl_map, List.foldl_map]
    rfl
  rw [this, foldl_push]
  show ByteArray.mk [].toArray ++ _ = _
  rw [ByteArray.mk_append_mk]
  rfl

/-- A source's cells, loaded. -/
theorem srcCells_ok (r : RelQ E.nG ρ h w) {s : Nat} {v : AV} {x : Value} {cs : List AV} {m : Nat} (hx : R ρ v x) (hs : srcCells h s v = some (cs, m)) :
    (∃ l, v = .str l ∧ s = 1 ∧ cs = ofBytes l ∧ m = l.length) ∨
    (∃ n c, x = .slice none n c ∧ cs = [] ∧ m = 0 ∧ n = 0) ∨ (∃ a c, x = .slice (some a) 0 c ∧ cs = [] ∧ m = 0) ∨
    (∃ (n off : Nat) (cap : Option Nat) (l : Loc) (c : Nat) (xs : List Value), v = .slc n off m cap ∧ ρ n = some l ∧ x = .slice (some (l.at off)) m c ∧ xs.length = m * s ∧ RL ρ cs xs ∧
      ∀ (j : Nat) (u : Value), xs[j]? = some u → w.cell? ((l.at off).add j) = some u) := by
  unfold srcCells at hs
  split at hs
  · rename_i l
    split at hs
    · rename_i h1
      cases hs
      exact .inl ⟨l, rfl, h1, rfl, rfl⟩
    · cases hs
  · rename_i c
    cases hs
    simp only [R] at hx
    exact .inr (.inl ⟨0, c, hx, rfl, rfl, rfl⟩)
  · cases hs
    simp only [R] at hx
    obtain ⟨a, c, rfl⟩ := hx
    exact .inr (.inr (.inl ⟨a, c, rfl, rfl, rfl⟩))
  · rename_i n off len cap
    split at hs
    · rename_i cs' hr
      cases hs
      simp only [R] at hx
      obtain ⟨l, hl, hsl⟩ := hx
      obtain ⟨xs, h1, h2, h3⟩ := run_read r hl hr
      refine .inr (.inr (.inr ⟨n, off, cap, l, ?_⟩))
      cases cap with
      | none => obtain ⟨_, _, rfl⟩ := hsl; exact ⟨_, xs, rfl, hl, rfl, h1, h2, h3⟩
      | some k => cases hsl; exact ⟨_, xs, rfl, hl, rfl, h1, h2, h3⟩
    · cases hs
  · cases hs

theorem run_forIn_runes {P : Program} {w : World} (f : Value → ByteArray → Sem (ForInStep ByteArray))
    (hf : ∀ (n : Int) (r : ByteArray), (f (.int .i32 n) r).run P w = .ok (.yield (r ++ Utf8.encode n)) w) :
    ∀ (ns : List Int) (s : ByteArray), (forIn (ns.map (Value.int .i32)) s f).run P w = .ok (ns.foldl (fun r n => r ++ Utf8.encode n) s) w := by
  intro ns
  induction ns with
  | nil => intro s; simp [Sem.run_pure]
  | cons n ns ih =>
    intro s
    simp only [List.map_cons, List.forIn_cons, Sem.run_bind, hf, Result.andThen, List.foldl_cons]
    exact ih _

theorem run_runesToString {P : Program} (w : World) (a : Addr) (len cap : Nat) (ns : List Int)
    (h : (loadCells a len).run P w = .ok (ns.map (Value.int .i32)).toArray w) :
    (Go.Conv.runesToString (.slice (some a) len cap)).run P w = .ok (.string (ns.foldl (fun r n => r ++ Utf8.encode n) ByteArray.empty)) w := by
  unfold Go.Conv.runesToString
  simp only [Sem.run_bind, h, Result.andThen, List.forIn_toArray]
  rw [run_forIn_runes _ (by intro n r; simp [Sem.run_pure])]
  simp [Sem.run_pure]

theorem toB_bytesNat (s : ByteArray) : toB (bytesNat s) = s := toB_bytes s
theorem bytesNat_lt (s : ByteArray) : ∀ n ∈ bytesNat s, n < 256 := by
  intro n hn
  simp only [bytesNat, List.mem_map] at hn
  obtain ⟨x, _, rfl⟩ := hn
  exact UInt8.toNat_lt x

theorem runesOf_ok : ∀ {cs : List AV} {bs : List Nat} {xs : List Value}, runesOf cs = some bs → RL ρ cs xs → ∃ ns : List Int, xs = ns.map (Value.int .i32) ∧ (∀ n ∈ bs, n < 256) ∧
    ∀ s, ns.foldl (fun r n => r ++ Utf8.encode n) s = s ++ toB bs
  | [], bs, xs, hb, hx => by
    simp only [runesOf, Option.some.injEq] at hb
    simp only [RL] at hx
    subst hb; subst hx
    refine ⟨[], rfl, by simp, fun s => ?_⟩
    obtain ⟨⟨d⟩⟩ := s
    show _ = ByteArray.mk d.toArray ++ ByteArray.mk [].toArray
    rw [ByteArray.mk_append_mk]
    simp
  | v :: l, bs, xs, hb, hx => by
    simp only [RL] at hx
    obtain ⟨b, bs', rfl, h1, h2⟩ := hx
    simp only [runesOf] at hb
    split at hb
    · rename_i n
      split at hb
      · rename_i r hr
        cases hb
        obtain ⟨ns, h3, h4, h5⟩ := runesOf_ok hr h2
        simp only [R] at h1
        subst h1
        refine ⟨n :: ns, by rw [h3]; rfl, ?_, ?_⟩
        · intro m hm
          rcases List.mem_append.1 hm with hm | hm
          · exact bytesNat_lt _ m hm
          · exact h4 m hm
        · intro s
          simp only [List.foldl_cons]
          rw [h5, ← toB_append, utf8Nats, toB_bytesNat]
          exact ByteArray.append_assoc
      · cases hb
    · cases hb

theorem cell_shape {w : World} {l : Loc} {o : AObj} (hor : OR ρ l o w.heap[l.b]?) {t : Tr AV} {size : Nat} {d : List AV} {el : TypeId} {es : Nat} {g : Bool} (ho : o = .cells t size d el es g) :
    w.shape? l.b = some (el, l.base + l.c) := by
  subst ho
  obtain ⟨_, _, _, c, fr, h4, h5, _, _⟩ := hor
  simp [World.shape?, h4, h5]

theorem run_viewAt_cells {w : World} {b : Nat} {x : TypeId × Nat} (h : w.shape? b = some x) : (viewAt b).run P w = .ok none w := by
  simp [viewAt, h]

/-- A live row of cells. -/
theorem obj_cells (r : RelQ E.nG ρ h w) {n : Nat} {t : Tr AV} {size : Nat} {d : List AV} {el : TypeId} {es : Nat} {g : Bool} {l : Loc} (hl : ρ n = some l)
    (ho : h.obj n = some (.cells t size d el es g)) : OR ρ l (.cells t size d el es g) w.heap[l.b]? := by
  obtain ⟨l', h1, h2⟩ := r.obj _ _ ho (by intro h; cases h)
  rw [hl] at h1
  cases h1
  exact h2

theorem liesAt_self (P : Program) {el s count off : Nat} (hc : P.cellsOf el = s + 1) (hoff : off % (s + 1) = 0) (hlt : count ≥ off / (s + 1) + 1) :
    liesAt P P.depth el count off el 1 = true := by
  have hd : ∃ n, P.depth = n + 1 + 1 := ⟨2 * (P.types.size + Made.depth), rfl⟩
  obtain ⟨n, hd⟩ := hd
  have h1 : rowAt P (sameLayout P P.depth · el) P.depth el count off 1 = true := by
    rw [hd]
    unfold rowAt
    simp [hc, hoff, sameLayout]
    omega
  rw [hd] at h1 ⊢
  unfold liesAt
  rw [hd]
  simp [h1]

set_option maxHeartbeats 1000000 in
theorem convQ_ok (ok : EnvOK P E) (r : RelQ E.nG ρ h w) {src dst : TypeId} {x v : AV} {x' : Value} (hx : R ρ x x') (hv : convQ E h src dst x = some v) :
    ∃ y, (convert src dst x').run P w = .ok y w ∧ R ρ v y := by
  unfold convQ at hv
  split at hv
  · rename_i i j hi hj
    have hs := (ok.T _ _ hi).und
    have hd := (ok.T _ _ hj).und
    split at hv
    · rename_i k k' n hk
      simp only [R] at hx
      subst hx
      cases hv
      rw [hk] at hd
      refine sc_ok ?_
      simp [convert, run_underlying hs, run_underlying hd, Go.Conv.intToInt, wrapI_eq]
    · rename_i k k' n hk
      simp only [R] at hx
      subst hx
      rw [hk] at hd
      simpa [convert, run_underlying hs, run_underlying hd] using pureSem_ok (P := P) (w := w) (ρ := ρ) hv
    · rename_i k s b hk
      simp only [R] at hx
      subst hx
      rw [hk] at hd
      simpa [convert, run_underlying hs, run_underlying hd] using pureSem_ok (P := P) (w := w) (ρ := ρ) hv
    · rename_i k s b hk
      simp only [R] at hx
      subst hx
      rw [hk] at hd
      simpa [convert, run_underlying hs, run_underlying hd] using pureSem_ok (P := P) (w := w) (ρ := ρ) hv
    · rename_i l hk
      simp only [R] at hx
      obtain ⟨rfl, h1⟩ := hx
      cases hv
      rw [hk] at hd
      exact ⟨.string (toB l), by simp [convert, run_underlying hs, run_underlying hd], by simpa [R] using h1⟩
    · rename_i k n hk
      simp only [R] at hx
      subst hx
      cases hv
      rw [hk] at hd
      refine ⟨.string (Utf8.encode n), by simp [convert, run_underlying hs, run_underlying hd, Go.Conv.intToString], ?_⟩
      simp only [R]
      exact ⟨by rw [utf8Nats, toB_bytesNat], bytesNat_lt _⟩
    · rename_i t n off hk1 hk2
      rw [hk1] at hs
      rw [hk2] at hd
      split at hv
      · rename_i tr size d el es g s ho hsz
        split at hv
        · rename_i hlt
          cases hv
          have hx' := hx
          simp only [R] at hx
          obtain ⟨l, hl, rfl⟩ := hx
          have hor := obj_cells r hl ho
          have hsh := cell_shape hor rfl
          have hnv : (viewAt (l.at off).block).run P w = .ok none w := run_viewAt_cells hsh
          have hsz' : (sizeOf t).run P w = .ok (s + 1) w := sizeT_ok ok hsz
          have hle := hor.2.1
          refine ⟨_, ?_, hx'⟩
          have hge : ¬ (l.at off).off ≥ l.base + l.c := by show ¬ l.base + off ≥ _; omega
          have hsh' : w.shape? (l.at off).block = some (el, l.base + l.c) := hsh
          simp [convert, run_underlying hs, run_underlying hd, Go.Conv.unsafePointer, Go.Conv.seenAt, hnv, cellsIn, hsh', hsz']
          intro hh
          exact absurd hh hge
        · cases hv
      · cases hv
    · rename_i u n off hk1 hk2
      rw [hk1] at hs
      rw [hk2] at hd
      split at hv
      · rename_i tr size d el es s ho hsz
        split at hv
        · rename_i hc
          obtain ⟨rfl, hmod, hle⟩ := hc
          cases hv
          have hx' := hx
          simp only [R] at hx
          obtain ⟨l, hl, rfl⟩ := hx
          have hor := obj_cells r hl ho
          have hsh := cell_shape hor rfl
          have hnv : (viewAt (l.at off).block).run P w = .ok none w := run_viewAt_cells hsh
          have hsz' : (sizeOf el).run P w = .ok (s + 1) w := sizeT_ok ok hsz
          obtain ⟨hb, hcs⟩ := hor.2.2.1 rfl
          have hsh' : w.shape? (l.at off).block = some (el, l.base + l.c) := hsh
          refine ⟨_, ?_, hx'⟩
          have hva : (variablesAt (l.at off) el 1).run P w = .ok true w := by
            have hcell : P.cellsOf el = s + 1 := by
              unfold sizeT at hsz
              split at hsz
              · rename_i i' hi'
                obtain ⟨ti, z, g1, g2, _⟩ := (ok.T _ _ hi').info
                simp only [Option.some.injEq] at hsz
                simp [Program.cellsOf, g1, g2, hsz]
              · cases hsz
            have hcnt : (l.base + l.c) / (s + 1) ≥ off / (s + 1) + 1 := by
              rw [hb, hcs, Nat.zero_add]
              have : off / (s + 1) + 1 = (off + (s + 1)) / (s + 1) := by rw [Nat.add_div_right _ (by omega)]
              rw [this]
              exact Nat.div_le_div_right hle
            have hlie := liesAt_self P hcell (count := (l.base + l.c) / (s + 1)) (off := off) hmod hcnt
            have hoff : (l.at off).off = off := by show l.base + off = off; omega
            simp [variablesAt, hsh', hcell, hoff, hlie]
          simp [convert, run_underlying hs, run_underlying hd, Go.Conv.unsafePointer, Go.Conv.seenAt, hnv, hsz', hva]
        · cases hv
      · cases hv
    · rename_i e hk1 hk2 hn1 hn2
      rw [hk1] at hs
      rw [hk2] at hd
      split at hv
      · rename_i ei hei
        have he := (ok.T _ _ hei).und
        split at hv
        · rename_i hk3
          rw [hk3] at he
          split at hv
          · cases hv
          · rename_i hns
            split at hv
            · rename_i cs m hsc
              split at hv
              · rename_i bs hbs
                cases hv
                rcases srcCells_ok r hx hsc with ⟨l, rfl, _⟩ | ⟨n, c, rfl, rfl, _, rfl⟩ | ⟨a, c, rfl, rfl, _⟩ | ⟨n, off, cap, l, c, xs, rfl, hl, rfl, h1, h2, h3⟩
                · exact absurd rfl (hns l)
                · simp only [bytesOf, Option.some.injEq] at hbs
                  subst hbs
                  refine ⟨.string .empty, by rw [run_convert_bytes_string w _ _ _ _ _ _ hs he hd]; simp [Go.Conv.bytesToString], by simp [R, toB]; rfl⟩
                · simp only [bytesOf, Option.some.injEq] at hbs
                  subst hbs
                  refine ⟨.string .empty, by rw [run_convert_bytes_string w _ _ _ _ _ _ hs he hd]; simp [Go.Conv.bytesToString, loadCells, loadCellsFrom], by simp [R, toB]; rfl⟩
                · obtain ⟨h4, h5⟩ := bytesOf_ok hbs h2
                  have hlc := run_loadCells_list (P := P) (w := w) (l.at off) xs h3
                  rw [h1, Nat.mul_one] at hlc
                  have hxs : xs.toArray = ((bs.map fun (n : Nat) => (n : Int)).map (Value.int .u8)).toArray := by rw [h4]; simp
                  rw [hxs] at hlc
                  refine ⟨.string (toB bs), ?_, by simpa [R] using h5⟩
                  rw [run_convert_bytes_string w _ _ _ _ _ _ hs he hd, run_bytesToString w _ _ _ _ hlc, bytes_fold]
              · cases hv
            · cases hv
        · rename_i hk3
          rw [hk3] at he
          split at hv
          · cases hv
          · rename_i hns
            split at hv
            · rename_i cs m hsc
              split at hv
              · rename_i bs hbs
                cases hv
                have hcv : ∀ a n c, (convert src dst (.slice a n c)).run P w = (Go.Conv.runesToString (.slice a n c)).run P w := by
                  intro a n c
                  simp [convert, run_underlying hs, run_underlying hd, run_underlying he]
                rcases srcCells_ok r hx hsc with ⟨l, rfl, _⟩ | ⟨n, c, rfl, rfl, _, rfl⟩ | ⟨a, c, rfl, rfl, _⟩ | ⟨n, off, cap, l, c, xs, rfl, hl, rfl, h1, h2, h3⟩
                · exact absurd rfl (hns l)
                · simp only [runesOf, Option.some.injEq] at hbs
                  subst hbs
                  refine ⟨.string .empty, by rw [hcv]; simp [Go.Conv.runesToString], by simp [R, toB]; rfl⟩
                · simp only [runesOf, Option.some.injEq] at hbs
                  subst hbs
                  refine ⟨.string .empty, by rw [hcv]; simp [Go.Conv.runesToString, loadCells, loadCellsFrom], by simp [R, toB]; rfl⟩
                · obtain ⟨ns, h4, h5, h6⟩ := runesOf_ok hbs h2
                  have hlc := run_loadCells_list (P := P) (w := w) (l.at off) xs h3
                  rw [h1, Nat.mul_one] at hlc
                  rw [h4] at hlc
                  refine ⟨.string (toB bs), ?_, by simpa [R] using h5⟩
                  rw [hcv, run_runesToString w _ _ _ _ hlc, h6]
                  congr 2
              · cases hv
            · cases hv
        · cases hv
      · cases hv
    · cases hv
  · cases hv
end
end Go.Eng

/- The engine: builtins that leave the memory as it is. -/
namespace Go.Eng
section
variable {P : Program} {E : Env} {ρ : Ren} {h : Heap} {w : World} {tm : Tr AV} {e : Operand → Value}

theorem RL_one {v : AV} {a : Array Value} (h : RL ρ [v] a.toList) : ∃ x, a = #[x] ∧ R ρ v x := by
  simp only [RL] at h
  obtain ⟨b, bs, h1, h2, rfl⟩ := h
  exact ⟨b, by rw [← Array.toArray_toList (xs := a), h1], h2⟩

theorem RL_two {v u : AV} {a : Array Value} (h : RL ρ [v, u] a.toList) : ∃ x y, a = #[x, y] ∧ R ρ v x ∧ R ρ u y := by
  simp only [RL] at h
  obtain ⟨b, bs, h1, h2, c, cs, rfl, h3, rfl⟩ := h
  exact ⟨b, c, by rw [← Array.toArray_toList (xs := a), h1], h2, h3⟩

theorem run_v {s : Sem Value} {y : Value} (hs : s.run P w = .ok y w) : ((do pure (Next.value (← s))) : Sem Next).run P w = .ok (.value y) w := by
  simp [hs]

theorem fold_ok {f : Value → Value → Sem Value} {g : AV → AV → Option AV} (hg : ∀ a b v, g a b = some v → ∃ a' b' v', a = .sc a' ∧ b = .sc b' ∧ v = .sc v' ∧ (f a' b').run P w = .ok v' w) :
    ∀ {l : List AV} {x : Value} {v : AV} {xs : List Value}, RL ρ l xs → foldA g (.sc x) l = some v → ∃ y, (xs.foldlM f x).run P w = .ok y w ∧ R ρ v y
  | [], x, v, xs, hl, hv => by
    simp only [RL] at hl
    subst hl
    simp only [foldA, Option.some.injEq] at hv
    subst hv
    exact ⟨x, by simp, by simp [R]⟩
  | a :: l, x, v, xs, hl, hv => by
    simp only [RL] at hl
    obtain ⟨b, bs, rfl, h1, h2⟩ := hl
    simp only [foldA] at hv
    split at hv
    · rename_i u hu
      obtain ⟨a', b', v', h3, h4, h5, h6⟩ := hg _ _ _ hu
      cases h3
      subst h4
      subst h5
      simp only [R] at h1
      subst h1
      obtain ⟨y, h7, h8⟩ := fold_ok hg h2 hv
      exact ⟨y, by simp only [List.foldlM_cons, Sem.run_bind, h6, Result.andThen_ok, h7], h8⟩
    · cases hv

theorem min2_ok {mx : Bool} {a b v : AV} (hv : min2A mx a b = some v) : ∃ a' b' v', a = .sc a' ∧ b = .sc b' ∧ v = .sc v' ∧
    ((match mx with | true => Builtin.max2 a' b' | false => Builtin.min2 a' b')).run P w = .ok v' w := by
  have ps : ∀ {s : Sem Value} {v : AV}, pureSem s = some v → ∃ u, v = .sc u ∧ s.run P w = .ok u w := by
    intro s v hs
    unfold pureSem at hs
    split at hs
    · split at hs
      · cases hs
      · cases hs
      · cases hs
      · cases hs
      · cases hs; exact ⟨_, rfl, rfl⟩
    · cases hs
  unfold min2A at hv
  split at hv
  · obtain ⟨u, h1, h2⟩ := ps hv
    exact ⟨_, _, u, rfl, rfl, h1, by cases mx <;> exact h2⟩
  · obtain ⟨u, h1, h2⟩ := ps hv
    exact ⟨_, _, u, rfl, rfl, h1, by cases mx <;> exact h2⟩
  · cases hv

theorem lenA_slice {v : AV} {x : Value} {n : Nat} (hx : R ρ v x) (hl : lenA h v = some n) (h1 : ∀ l, v ≠ .str l) (h2 : ∀ n, v ≠ .mp n) (h3 : v ≠ .sc (.map none)) : ∃ a c, x = .slice a n c := by
  unfold lenA at hl
  split at hl
  · exact absurd rfl (h1 _)
  · cases hl; simp only [R] at hx; obtain ⟨l, _, hs⟩ := hx; obtain ⟨a, c, rfl⟩ := slcV_some hs; exact ⟨_, _, rfl⟩
  · cases hl; simp only [R] at hx; exact ⟨_, _, hx⟩
  · cases hl; simp only [R] at hx; obtain ⟨a, c, rfl⟩ := hx; exact ⟨_, _, rfl⟩
  · exact absurd rfl (h2 _)
  · exact absurd rfl h3
  · cases hl

theorem ER_length {ρ : Ren} : ∀ {a : List MapE} {x : List MapEntry}, ER ρ a x → a.length = x.length
  | [], x, h => by simp only [ER] at h; simp [h]
  | a :: as, x, h => by
    obtain ⟨b, bs, rfl, _, _, _, s⟩ := h
    simp [ER_length s]

theorem run_getMap (r : RelQ E.nG ρ h w) {n : Nat} {es : List MapE} {clock : Nat} {l : Loc} (hl : ρ n = some l) (ho : h.obj n = some (.map es clock)) :
    ∃ es', (getObj l.b).run P w = .ok (.map es' clock) w ∧ ER ρ es es'.toList ∧ w.heap[l.b]? = some (.map es' clock) := by
  obtain ⟨l', h1, h2⟩ := r.obj _ _ ho (by intro h; cases h)
  rw [hl] at h1
  cases h1
  obtain ⟨es', h3, h4⟩ := h2
  exact ⟨es', by simp [getObj, Sem.run, h3], h4, h3⟩

theorem cplx_eq (ts : Array TypeId) (ty : TypeId) (k k' : FloatKind) (a b : Nat) : Builtin.complex_ ts ty #[.float k a, .float k' b] =
    (if k = k' then pure (.complex k a b) else stuck "complex: parts of different kinds") := rfl

theorem usd_eq (ts : Array TypeId) (ty : TypeId) (a : Addr) (n c : Nat) : Builtin.unsafeSliceData_ ts ty #[.slice (some a) n c] =
    (if c ≠ 0 then pure (.pointer (some a)) else do
      if (← viewAt a.block).isSome then pure (.pointer (some a))
      else pure (.pointer (some ⟨← newObj (.view a (← elemOf ty)), 0, none⟩))) := rfl

set_option maxHeartbeats 1000000 in
theorem builtinQ_ok (ok : EnvOK P E) (r : RelQ E.nG ρ h w) {b : Builtin} {ts : Array TypeId} {ty : TypeId} {cs : Array Bool} {args : List AV} {args' : Array Value} {v : AV}
    (ha : RL ρ args args'.toList) (hv : builtinQ E h b ts args = some v) : ∃ y, (builtin b ts ty cs args').run P w = .ok (.value y) w ∧ R ρ v y := by
  have fin : ∀ {s : Sem Value} {v : AV}, (∃ y, s.run P w = .ok y w ∧ R ρ v y) → (∃ y, ((do pure (Next.value (← s))) : Sem Next).run P w = .ok (.value y) w ∧ R ρ v y) :=
    fun ⟨y, h1, h2⟩ => ⟨y, run_v h1, h2⟩
  unfold builtinQ at hv
  split at hv
  · rename_i x
    obtain ⟨x', rfl, hx⟩ := RL_one ha
    split at hv
    · rename_i t ht
      split at hv
      · rename_i i hi
        have hu := (ok.T _ _ hi).und
        refine fin (s := Builtin.len_ ts ty #[x']) ?_
        split at hv
        · rename_i n el hk
          rw [hk] at hu
          cases hv
          refine sc_ok ?_
          simp [Builtin.len_, ht, run_underlying hu, goInt]
        · rename_i arr hk
          rw [hk] at hu
          split at hv
          · rename_i j hj
            have hu' := (ok.T _ _ hj).und
            split at hv
            · rename_i n el hk'
              rw [hk'] at hu'
              cases hv
              refine sc_ok ?_
              simp [Builtin.len_, ht, run_underlying hu, run_underlying hu', goInt]
            · cases hv
          · cases hv
        · rename_i hk
          rw [hk] at hu
          split at hv
          · cases hv
            simp only [R] at hx
            obtain ⟨rfl, _⟩ := hx
            refine sc_ok ?_
            simp [Builtin.len_, ht, run_underlying hu, goInt, size_toB]
          · cases hv
        · rename_i el hk
          rw [hk] at hu
          split at hv
          · cases hv
          · cases hv
          · cases hv
          · rename_i h1 h2 h3
            split at hv
            · rename_i n hn
              cases hv
              obtain ⟨a, c, rfl⟩ := lenA_slice hx hn h1 h2 h3
              refine sc_ok ?_
              simp [Builtin.len_, ht, run_underlying hu, goInt]
            · cases hv
        · rename_i k el hk
          rw [hk] at hu
          split at hv
          · rename_i m
            simp only [R] at hx
            obtain ⟨l, hl, rfl⟩ := hx
            split at hv
            · rename_i n hn
              cases hv
              unfold lenA at hn
              simp only [] at hn
              split at hn
              · rename_i es clock ho
                cases hn
                obtain ⟨es', h3, h4, _⟩ := run_getMap (P := P) r hl ho
                refine sc_ok ?_
                have := ER_length h4
                simp [Builtin.len_, ht, run_underlying hu, goInt, h3, this]
              · cases hn
            · cases hv
          · simp only [R] at hx
            subst hx
            simp only [lenA] at hv
            cases hv
            refine sc_ok ?_
            simp [Builtin.len_, ht, run_underlying hu, goInt]
          · cases hv
        · cases hv
      · cases hv
    · cases hv
  · rename_i x l
    split at hv
    · rename_i u
      simp only [RL] at ha
      obtain ⟨b, bs, h1, h2, h3⟩ := ha
      simp only [R] at h2
      subst h2
      refine fin (s := Builtin.min_ ts ty args') ?_
      simp only [Builtin.min_, h1]
      exact fold_ok (fun a b v hab => min2_ok (P := P) (w := w) (mx := false) hab) h3 hv
    · cases hv
  · rename_i x l
    split at hv
    · rename_i u
      simp only [RL] at ha
      obtain ⟨b, bs, h1, h2, h3⟩ := ha
      simp only [R] at h2
      subst h2
      refine fin (s := Builtin.max_ ts ty args') ?_
      simp only [Builtin.max_, h1]
      exact fold_ok (fun a b v hab => min2_ok (P := P) (w := w) (mx := true) hab) h3 hv
    · cases hv
  · cases hv
    obtain ⟨x', rfl, hx⟩ := RL_one ha
    simp only [R] at hx
    subst hx
    exact fin (s := Builtin.real_ ts ty _) (sc_ok rfl)
  · cases hv
    obtain ⟨x', rfl, hx⟩ := RL_one ha
    simp only [R] at hx
    subst hx
    exact fin (s := Builtin.imag_ ts ty _) (sc_ok rfl)
  · split at hv
    · rename_i hk
      cases hv
      obtain ⟨x', y', rfl, hx, hy⟩ := RL_two ha
      simp only [R] at hx hy
      subst hx; subst hy; subst hk
      exact fin (s := Builtin.complex_ ts ty _) (sc_ok (by rw [cplx_eq]; simp))
    · cases hv
  · split at hv
    · cases hv
    · rename_i hc
      cases hv
      obtain ⟨x', rfl, hx⟩ := RL_one ha
      simp only [R] at hx
      obtain ⟨l, hl, rfl⟩ := hx
      exact fin (s := Builtin.unsafeSliceData_ ts ty _) ⟨.pointer (some (l.at _)), by rw [usd_eq, if_pos hc]; rfl, by simp only [R]; exact ⟨l, hl, rfl⟩⟩
  · split at hv
    · cases hv
    · rename_i n off len hc
      cases hv
      obtain ⟨x', rfl, hx⟩ := RL_one ha
      simp only [R] at hx
      obtain ⟨l, hl, h1, h2, rfl⟩ := hx
      have hne : (l.c - off) / l.s ≠ 0 := by
        have h3 : 1 * l.s ≤ l.c - off := by
          have : 1 * l.s ≤ len * l.s := Nat.mul_le_mul_right _ (by omega)
          omega
        have := (Nat.le_div_iff_mul_le h1).2 h3
        omega
      exact fin (s := Builtin.unsafeSliceData_ ts ty _) ⟨.pointer (some (l.at _)), by rw [usd_eq, if_pos hne]; rfl, by simp only [R]; exact ⟨l, hl, rfl⟩⟩
  · cases hv
    obtain ⟨x', rfl, hx⟩ := RL_one ha
    simp only [R] at hx
    subst hx
    exact fin (s := Builtin.unsafeSliceData_ ts ty _) (sc_ok rfl)
  · cases hv
end
end Go.Eng

/- The engine: all operations that leave the memory as it is. -/
namespace Go.Eng
section
variable {P : Program} {E : Env} {ρ : Ren} {h : Heap} {w : World} {tm : Tr AV} {e : Operand → Value}

def OptR (ρ : Ren) : Option AV → Option Value → Prop
  | none, none => True
  | some v, some x => R ρ v x
  | _, _ => False

theorem evO_ok (he : EvOK E.nG ρ tm e) {x : Option Operand} {v : Option AV} (hv : evO E.nG tm x = some v) : OptR ρ v (x.map e) := by
  unfold evO at hv
  split at hv
  · cases hv; trivial
  · split at hv
    · rename_i u hu; cases hv; exact he _ _ hu
    · cases hv

theorem natOf_ok {v : AV} {x : Value} {n : Nat} (hx : R ρ v x) (hn : natOf v = some n) : ∃ k, x = .int k (.ofNat n) := by
  unfold natOf at hn
  split at hn
  · rename_i k m
    cases hn
    simp only [R] at hx
    exact ⟨k, hx⟩
  · cases hn

theorem bound_ok {y n : Nat} {v : AV} {x : Value} {d Y : Nat} (code : BoundsCode) (hx : R ρ v x) (hb : bound y (some v) d = some n) (hY : y ≤ Y) :
    (Instr.sliceBound x Y code).run P w = .ok n w ∧ n ≤ y := by
  unfold bound at hb
  simp only [] at hb
  split at hb
  · rename_i m hm
    obtain ⟨k, rfl⟩ := natOf_ok hx hm
    split at hb
    · rename_i hle
      cases hb
      rw [Nat.ble_eq] at hle
      exact ⟨run_sliceBound (P := P) (w := w) k (Int.ofNat n) Y code (by simp) (by simp; omega), hle⟩
    · cases hb
  · cases hb

theorem bnds_ok {len c C : Nat} {lo hi mx : Option AV} {lo' hi' mx' : Option Value} {l h : Nat} {m : Option Nat} (isS : Bool) (h1 : OptR ρ lo lo') (h2 : OptR ρ hi hi') (h3 : OptR ρ mx mx')
    (hb : bnds len c lo hi mx = some (l, h, m)) (hc : c ≤ C) :
    (Instr.sliceBounds isS len C lo' hi' mx').run P w = .ok (l, h, m.getD C) w ∧ l ≤ h ∧ (∀ k, m = some k → h ≤ k ∧ k ≤ c) ∧ (m = none → h ≤ c ∨ h = len) := by
  have low : ∀ {h l : Nat} {lo : Option AV} {lo' : Option Value} (code : BoundsCode), OptR ρ lo lo' → bound h lo 0 = some l →
      ((lo' = none ∧ l = 0) ∨ ∃ x, lo' = some x ∧ (Instr.sliceBound x h code).run P w = .ok l w) ∧ l ≤ h := by
    intro h l lo lo' code hr hb
    cases lo with
    | none =>
      cases lo' with
      | none => simp only [bound, Option.some.injEq] at hb; subst hb; exact ⟨.inl ⟨rfl, rfl⟩, Nat.zero_le _⟩
      | some x => exact hr.elim
    | some v =>
      cases lo' with
      | none => exact hr.elim
      | some x => obtain ⟨g1, g2⟩ := bound_ok code hr hb (Nat.le_refl _); exact ⟨.inr ⟨x, rfl, g1⟩, g2⟩
  unfold bnds at hb
  split at hb
  · cases mx' with
    | some x => exact h3.elim
    | none =>
      split at hb
      · rename_i hh hhi
        split at hb
        · rename_i ll hlo
          cases hb
          obtain ⟨g1, g2⟩ := low .sliceB h1 hlo
          cases hi with
          | none =>
            cases hi' with
            | some x => exact h2.elim
            | none =>
              simp only [bound, Option.some.injEq] at hhi
              subst hhi
              refine ⟨?_, g2, by simp, fun _ => .inr rfl⟩
              rcases g1 with ⟨rfl, rfl⟩ | ⟨x, rfl, g1⟩
              · simp [Instr.sliceBounds]
              · simp [Instr.sliceBounds, g1]
          | some v =>
            cases hi' with
            | none => exact h2.elim
            | some x =>
              obtain ⟨g3, g4⟩ := bound_ok (P := P) (w := w) (if isS then .sliceAcap else .sliceAlen) h2 hhi hc
              refine ⟨?_, g2, by simp, fun _ => .inl g4⟩
              rcases g1 with ⟨rfl, rfl⟩ | ⟨y, rfl, g1⟩
              · simp [Instr.sliceBounds, g3]
              · simp [Instr.sliceBounds, g3, g1]
        · cases hb
      · cases hb
  · rename_i v
    cases mx' with
    | none => exact h3.elim
    | some x =>
      split at hb
      · rename_i mm hm
        obtain ⟨g5, g6⟩ := bound_ok (P := P) (w := w) (if isS then .slice3Acap else .slice3Alen) h3 hm hc
        split at hb
        · cases hb
        · rename_i hv
          cases hi' with
          | none => exact h2.elim
          | some y =>
            split at hb
            · rename_i hh hhi
              obtain ⟨g3, g4⟩ := bound_ok (P := P) (w := w) .slice3B h2 hhi (Nat.le_refl _)
              split at hb
              · rename_i ll hlo
                cases hb
                obtain ⟨g1, g2⟩ := low .slice3C h1 hlo
                refine ⟨?_, g2, fun k hk => by cases hk; exact ⟨g4, g6⟩, by simp⟩
                rcases g1 with ⟨rfl, rfl⟩ | ⟨z, rfl, g1⟩
                · simp [Instr.sliceBounds, g3, g5]
                · simp [Instr.sliceBounds, g3, g5, g1]
              · cases hb
            · cases hb
      · cases hb

theorem at_add (l : Loc) (off n : Nat) : (l.at off).add n = l.at (off + n) := Addr.add_at l off n

theorem if_add (l : Loc) (off m n k : Nat) : (if m = n then l.at off else (l.at off).add k) = l.at (if m = n then off else off + k) := by
  split <;> simp [at_add]

/-- The capacity that a slice value has. -/
def CapOk (l : Loc) (off len s : Nat) (cap : Option Nat) (C : Nat) : Prop :=
  match cap with
  | some k => C = k
  | none => 0 < l.s ∧ l.s = s ∧ off + len * l.s ≤ l.c ∧ C = (l.c - off) / l.s

theorem slcA_ok {n off len C : Nat} {cap : Option Nat} {s : Nat} {lo hi mx : Option AV} {lo' hi' mx' : Option Value} {v : AV} {l : Loc} (isS : Bool) (h1 : OptR ρ lo lo') (h2 : OptR ρ hi hi') (h3 : OptR ρ mx mx')
    (hl : ρ n = some l) (hcap : CapOk l off len s cap C) (hv : slcA n off len cap s lo hi mx = some v) :
    ∃ a b m, (Instr.sliceBounds isS len C lo' hi' mx').run P w = .ok (a, b, m) w ∧ R ρ v (.slice (some (if m = a then l.at off else (l.at off).add (a * s))) (b - a) (m - a)) := by
  unfold slcA at hv
  split at hv
  · rename_i c
    simp only [CapOk] at hcap
    subst hcap
    split at hv
    · rename_i a b m hb
      obtain ⟨g1, g2, g3, g4⟩ := bnds_ok (P := P) (w := w) isS h1 h2 h3 hb (Nat.le_refl _)
      cases hv
      refine ⟨a, b, m, by simpa using g1, ?_⟩
      simp only [R]
      exact ⟨l, hl, by rw [if_add]; rfl⟩
    · rename_i a b hb
      obtain ⟨g1, g2, g3, g4⟩ := bnds_ok (P := P) (w := w) isS h1 h2 h3 hb (Nat.le_refl _)
      cases hv
      refine ⟨a, b, C, by simpa using g1, ?_⟩
      simp only [R]
      exact ⟨l, hl, by rw [if_add]; rfl⟩
    · cases hv
  · obtain ⟨hs0, hs1, hle, hC⟩ := hcap
    have hlenC : len ≤ C := by
      rw [hC, Nat.le_div_iff_mul_le hs0]
      omega
    split at hv
    · rename_i a b m hb
      obtain ⟨g1, g2, g3, g4⟩ := bnds_ok (P := P) (w := w) isS h1 h2 h3 hb hlenC
      cases hv
      refine ⟨a, b, m, by simpa using g1, ?_⟩
      simp only [R]
      exact ⟨l, hl, by rw [if_add]; rfl⟩
    · rename_i a b hb
      obtain ⟨g1, g2, g3, g4⟩ := bnds_ok (P := P) (w := w) isS h1 h2 h3 hb hlenC
      have hbl : b ≤ len := by rcases g4 rfl with h | h <;> omega
      refine ⟨a, b, C, by simpa using g1, ?_⟩
      split at hv
      · rename_i hlt
        cases hv
        simp only [R]
        refine ⟨l, hl, hs0, ?_, ?_⟩
        · have : a * s + (b - a) * l.s = b * l.s := by
            rw [hs1, ← Nat.add_mul]
            congr 1
            omega
          have h5 : b * l.s ≤ len * l.s := Nat.mul_le_mul_right _ hbl
          omega
        · have hne : ¬ C = a := by omega
          rw [if_neg hne, at_add]
          congr 1
          rw [hC, ← hs1]
          have : l.c - (off + a * l.s) = l.c - off - l.s * a := by rw [Nat.mul_comm]; omega
          rw [this, Nat.sub_mul_div]
      · rename_i hlt
        split at hv
        · rename_i h0
          cases hv
          subst h0
          have : len = 0 := by omega
          have hb0 : b = 0 := by omega
          subst this; subst hb0
          simp only [R]
          refine ⟨l, hl, hs0, by omega, ?_⟩
          have : (if C = 0 then l.at off else (l.at off).add (0 * s)) = l.at off := by
            split
            · rfl
            · rw [at_add]; congr 1; omega
          rw [this, hC]
          simp
        · cases hv
          simp only [R]
          have : b - a = 0 := by omega
          rw [this]
          exact ⟨_, _, rfl⟩
    · cases hv
/-- Parts laid into cells. -/
inductive PR (ρ : Ren) (e : Operand → Value) (place : Nat → Option (Nat × Nat)) : List (Nat × Operand) → List (Nat × Nat × AV) → Prop
  | nil : PR ρ e place [] []
  | cons {i : Nat} {x : Operand} {off size : Nat} {v : AV} {l : List (Nat × Operand)} {ps : List (Nat × Nat × AV)} (h1 : place i = some (off, size)) (h2 : R ρ v (e x)) (h3 : PR ρ e place l ps) :
      PR ρ e place ((i, x) :: l) ((off, size, v) :: ps)

theorem partsA_pr (he : EvOK E.nG ρ tm e) {place : Nat → Option (Nat × Nat)} : ∀ {l : List (Nat × Operand)} {ps : List (Nat × Nat × AV)}, partsA E tm place l = some ps → PR ρ e place l ps
  | [], ps, hp => by
    simp only [partsA, Option.some.injEq] at hp
    subst hp
    exact .nil
  | (i, x) :: rest, ps, hp => by
    simp only [partsA] at hp
    split at hp
    · rename_i off size v h1 h2
      split at hp
      · rename_i l hl
        cases hp
        exact .cons h1 (he _ _ h2) (partsA_pr he hl)
      · cases hp
    · cases hp

theorem fold_set (vs : List Value) : ∀ (cs : Array Value) (off j0 : Nat), off + j0 + vs.length ≤ cs.size →
    (vs.zipIdx j0).foldl (fun (cs : Array Value) (x : Value × Nat) => cs.setIfInBounds (off + x.2) x.1) cs =
      (cs.toList.take (off + j0) ++ (vs ++ cs.toList.drop (off + j0 + vs.length))).toArray := by
  induction vs with
  | nil => intro cs off j0 h; simp
  | cons v vs ih =>
    intro cs off j0 h
    simp only [List.length_cons] at h
    simp only [List.zipIdx_cons, List.foldl_cons]
    rw [ih _ _ _ (by simp; omega)]
    have hlt : off + j0 < cs.toList.length := by simp; omega
    simp only [Array.toList_setIfInBounds, List.length_cons]
    congr 1
    rw [show off + (j0 + 1) = (off + j0) + 1 from by omega, show off + j0 + 1 + vs.length = off + j0 + (vs.length + 1) from by omega]
    rw [List.take_succ_eq_append_getElem (by simpa using hlt), List.take_set_of_le (by omega), List.getElem_set_self, List.drop_set_of_lt (by omega)]
    simp

theorem fillA_ok {place : Nat → Option (Nat × Nat)} : ∀ {l : List (Nat × Operand)} {ps : List (Nat × Nat × AV)} {cells out : List AV} {cs : Array Value}, PR ρ e place l ps → RL ρ cells cs.toList →
    fillA ps cells = some out → ∃ cs', Instr.fill place cs (l.map fun p => (p.1, e p.2)) = some cs' ∧ RL ρ out cs'.toList
  | _, _, cells, out, cs, .nil, hc, hf => by
    simp only [fillA, Option.some.injEq] at hf
    subst hf
    exact ⟨cs, rfl, hc⟩
  | _, _, cells, out, cs, .cons (i := i) (x := x) (off := off) (size := size) (v := v) (l := l) (ps := ps) h1 h2 h3, hc, hf => by
    simp only [fillA] at hf
    split at hf
    · rename_i hle
      simp only [Bool.and_eq_true, Nat.beq_eq, Nat.ble_eq] at hle
      obtain ⟨⟨hbv, hsz⟩, hle⟩ := hle
      have hv := cellsOf_ok h2 hbv
      have hlen := RL_length hv
      have hlc := RL_length hc
      have hcs : (e x).cells.size = size := by rw [← hsz, hlen]; simp
      have hfold := fold_set (e x).cells.toList cs off 0 (by simp [hcs] at *; omega)
      obtain ⟨cs', h4, h5⟩ := fillA_ok (cs := (cs.toList.take off ++ ((e x).cells.toList ++ cs.toList.drop (off + size))).toArray) h3
        (RL_append (RL_take off hc) (RL_append hv (RL_drop (off + size) hc))) hf
      refine ⟨cs', ?_, h5⟩
      simp only [List.map_cons, Instr.fill, h1]
      have hcond : ¬ ((e x).cells.size ≠ size ∨ off + (e x).cells.size > cs.size) := by
        rw [hcs]
        have : cells.length = cs.size := by simpa using hlc
        omega
      have hcond' : (decide ((e x).cells.size ≠ size) || decide (off + (e x).cells.size > cs.size)) = false := by
        simpa using hcond
      simp only [← Array.foldl_toList, Array.toList_zipIdx]
      rw [if_neg (by simpa using hcond)]
      have h6 : (e x).cells.toList.length = size := by simpa using hcs
      rw [hfold, Nat.add_zero, h6]
      exact h4
    · cases hf
theorem run_mapM_fields (ok : EnvOK P E) : ∀ (fs : List Field), (∀ f ∈ fs, (sizeT E f.type).isSome = true) →
    (fs.mapM (fun (f : Field) => (do pure (f.offset, ← sizeOf f.type) : Sem (Nat × Nat)))).run P w = .ok (fs.map fun f => (f.offset, (sizeT E f.type).getD 0)) w
  | [], _ => by simp
  | f :: fs, h => by
    obtain ⟨s, hs⟩ := Option.isSome_iff_exists.1 (h f (List.mem_cons_self ..))
    have h1 := sizeT_ok (w := w) ok hs
    have h2 := run_mapM_fields ok fs (fun g hg => h g (List.mem_cons_of_mem _ hg))
    simp only [List.mapM_cons, Sem.run_bind, h1, Result.andThen_ok, Sem.run_pure, h2, List.map_cons, hs, Option.getD_some]

end
end Go.Eng

/- The engine: each operation that leaves the memory as it is. -/
namespace Go.Eng
section
variable {P : Program} {E : Env} {ρ : Ren} {h : Heap} {w : World} {tm : Tr AV} {e : Operand → Value}

theorem bool_of {v : AV} {b : Bool} {x : Value} (hx : R ρ v x) (hv : v = .sc (.bool b)) : x = .bool b := by
  subst hv
  simpa [R] using hx

theorem mapFind_ok (ok : EnvOK P E) {kt : TypeId} {k : AV} {k' : Value} (hk : R ρ k k') : ∀ {es : List MapE} {es' : List MapEntry} {i : Nat} {res : Option MapE}, ER ρ es es' → mapFind E h kt k es = some res →
    (res = none ∧ (Instr.findAsking kt k' es' i).run P w = .ok none w) ∨
    ∃ m n x, res = some m ∧ (Instr.findAsking kt k' es' i).run P w = .ok (some (i + n, x.val)) w ∧ es'[n]? = some x ∧ es[n]? = some m ∧ R ρ m.key x.key ∧ R ρ m.val x.val ∧ x.born = m.born
  | [], es', i, res, he, hf => by
    simp only [ER] at he
    subst he
    simp only [mapFind, Option.some.injEq] at hf
    subst hf
    exact .inl ⟨rfl, by simp [Instr.findAsking]⟩
  | a :: as, es', i, res, he, hf => by
    obtain ⟨b, bs, rfl, h1, h2, h3, h4⟩ := he
    simp only [mapFind] at hf
    split at hf
    · rename_i heq
      cases hf
      have := aeq_sound (w := w) ok 10000 hk h1 heq
      exact .inr ⟨a, 0, b, rfl, by simp [Instr.findAsking, Op.equal, Op.maxDepth, this], rfl, rfl, h1, h2, h3⟩
    · rename_i heq
      have := aeq_sound (w := w) ok 10000 hk h1 heq
      rcases mapFind_ok ok hk (i := i + 1) h4 hf with ⟨h5, h6⟩ | ⟨m, n, x, h5, h6, h7, h8, h9⟩
      · exact .inl ⟨h5, by simp [Instr.findAsking, Op.equal, Op.maxDepth, this, h6]⟩
      · refine .inr ⟨m, n + 1, x, h5, ?_, by simpa using h7, by simpa using h8, h9⟩
        have e1 : i + 1 + n = i + (n + 1) := by omega
        simp [Instr.findAsking, Op.equal, Op.maxDepth, this, h6, e1]
    · cases hf

/-- What is found at once is what is found by asking. -/
theorem findNow_ok (ok : EnvOK P E) {kt : TypeId} {i0 : TI} (hi : E.T.get kt = some i0) {k' : Value} : ∀ {es' : List MapEntry} {i : Nat} {r : Option (Nat × Value)}, Instr.findNow i0.desc k' es' i = some r →
    (Instr.findAsking kt k' es' i).run P w = .ok r w
  | [], i, r, h => by simp only [Instr.findNow, Option.some.injEq] at h; subst h; simp [Instr.findAsking]
  | a :: as, i, r, h => by
    have hu := (ok.T _ _ hi).und
    have same : ∀ b, Instr.sameNow i0.desc k' a.key = some b → (Op.equal kt k' a.key).run P w = .ok b w := by
      intro b hb
      generalize a.key = ak at hb ⊢
      unfold Instr.sameNow at hb
      split at hb
      · rename_i hd
        rw [hd] at hu
        split at hb
        · rename_i hk
          subst hk
          cases hb
          exact run_equalIn_int w 9999 kt _ _ _ _ hu
        · cases hb
      · rename_i hd
        rw [hd] at hu
        cases hb
        refine (run_equalIn_string w 9999 kt _ _ hu).trans ?_
        rw [beq_toListBytes]
      · rename_i hd
        rw [hd] at hu
        cases hb
        exact run_equalIn_bool' w 9999 kt _ _ hu
      · cases hb
    simp only [Instr.findNow] at h
    split at h
    · rename_i hs
      cases h
      simp [Instr.findAsking, same _ hs]
    · rename_i hs
      simp [Instr.findAsking, same _ hs, findNow_ok ok hi h]
    · cases h

theorem findKey_run (ok : EnvOK P E) {kt : TypeId} {i0 : TI} (hi : E.T.get kt = some i0) {k' : Value} {es' : List MapEntry} {r : Option (Nat × Value)} (h : (Instr.findAsking kt k' es' 0).run P w = .ok r w) :
    (Instr.findKey kt k' es').run P w = .ok r w := by
  have hu := (ok.T _ _ hi).und
  unfold Instr.findKey
  simp only [Sem.run_bind, run_underlying hu, Result.andThen_ok]
  cases hn : Instr.findNow i0.desc k' es' 0 with
  | some r' =>
    have := findNow_ok (w := w) ok hi hn
    rw [h] at this
    cases this
    rfl
  | none => exact h

theorem checkKey_scalar (ok : EnvOK P E) {b : Bool} {n : Nat} {t : TypeId} {i : TI} {x : Value} (hi : E.T.get t = some i) (hni : keyType i.desc = true) :
    (Instr.checkKey b (n + 1) t x).run P w = .ok () w := by
  have hu := (ok.T _ _ hi).und
  simp only [Instr.checkKey, Sem.run_bind, run_underlying hu, Result.andThen_ok]
  cases hd : i.desc <;> first | rfl | (rw [hd] at hni; simp [keyType] at hni)

theorem forIn_ok {α : Type} {f : α → PUnit → Sem (ForInStep PUnit)} : ∀ {l : List α}, (∀ a ∈ l, (f a ⟨⟩).run P w = .ok (.yield ⟨⟩) w) → (forIn l ⟨⟩ f).run P w = .ok ⟨⟩ w
  | [], _ => by simp
  | a :: l, h => by
    simp only [List.forIn_cons, Sem.run_bind, h a (List.mem_cons_self ..), Result.andThen_ok]
    exact forIn_ok fun b hb => h b (List.mem_cons_of_mem _ hb)

theorem checkKey_ok (ok : EnvOK P E) {b : Bool} (d : Nat) : ∀ {n : Nat} {t : TypeId} {k : AV} {k' : Value}, d ≤ n → R ρ k k' → keyFits E d t k = true → (Instr.checkKey b n t k').run P w = .ok () w := by
  induction d with
  | zero => intro n t k k' _ _ h; simp [keyFits] at h
  | succ d ih =>
    intro n t k k' hn hk h
    obtain ⟨n, rfl⟩ : ∃ m, n = m + 1 := ⟨n - 1, by omega⟩
    simp only [keyFits] at h
    split at h
    · cases h
    · rename_i i hi
      have hu := (ok.T _ _ hi).und
      split at h
      · rename_i fs xs hd
        rw [hd] at hu
        simp only [R] at hk
        obtain ⟨xs', rfl, hx⟩ := hk
        have key : (forIn fs.toList PUnit.unit fun (f : Field) (_ : PUnit) => (do
            if f.name ≠ "_" then Instr.checkKey b n f.type (← part f.type xs' f.offset)
            pure (ForInStep.yield PUnit.unit) : Sem (ForInStep PUnit))).run P w = .ok ⟨⟩ w := by
          refine forIn_ok fun f hf => ?_
          have h1 := List.all_eq_true.1 h f hf
          split at h1
          · rename_i y hp
            obtain ⟨y', hy, hr⟩ := part_ok (w := w) ok hx hp
            have := ih (n := n) (by omega) hr h1
            simp only [Sem.run_bind, Sem.run_ite, hy, Result.andThen_ok, this, Sem.run_pure]
            split <;> rfl
          · cases h1
        rw [Instr.checkKey]
        simp only [Sem.run_bind, run_underlying hu, Result.andThen_ok]
        rw [← Array.forIn_toList]
        exact (congrArg (fun r => Result.andThen r _) key).trans rfl
      · rename_i len et xs hd
        rw [hd] at hu
        simp only [R] at hk
        obtain ⟨xs', rfl, hx⟩ := hk
        split at h
        · cases h
        · rename_i ei hei
          have hsz := run_sizeOf (w := w) (ok.T _ _ hei)
          have key : (forIn (List.range len) PUnit.unit fun (i : Nat) (_ : PUnit) => (do
              Instr.checkKey b n et (← part et xs' (i * (← sizeOf et)))
              pure (ForInStep.yield PUnit.unit) : Sem (ForInStep PUnit))).run P w = .ok ⟨⟩ w := by
            refine forIn_ok fun k hk => ?_
            have h1 := List.all_eq_true.1 h k hk
            split at h1
            · rename_i y hp
              obtain ⟨y', hy, hr⟩ := part_ok (w := w) ok hx hp
              have := ih (n := n) (by omega) hr h1
              simp only [Sem.run_bind, hsz, hy, Result.andThen_ok, this, Sem.run_pure]
            · cases h1
          rw [Instr.checkKey]
          simp only [Sem.run_bind, run_underlying hu, Result.andThen_ok]
          rw [Std.Legacy.Range.forIn_eq_forIn_range']
          have hr : List.range' [:len].start [:len].size [:len].step = List.range len := by simp [Std.Legacy.Range.size, List.range_eq_range']
          rw [hr]
          exact (congrArg (fun r => Result.andThen r _) key).trans rfl
      · exact checkKey_scalar ok hi h
end
end Go.Eng

/- The engine: the quiet operations, in one. -/
namespace Go.Eng
section
variable {P : Program} {E : Env} {ρ : Ren} {h : Heap} {w : World} {tm : Tr AV} {e : Operand → Value}

theorem fin_v {s : Sem Value} {v : AV} (hs : ∃ y, s.run P w = .ok y w ∧ R ρ v y) : ∃ y, ((do pure (Next.value (← s))) : Sem Next).run P w = .ok (.value y) w ∧ R ρ v y :=
  let ⟨y, h1, h2⟩ := hs; ⟨y, run_v h1, h2⟩

theorem lookup_ok (ok : EnvOK P E) (r : RelQ E.nG ρ h w) {t kt vt : TypeId} {i : TI} {m k v : AV} {m' k' : Value} {commaOk : Bool} {es : List MapE} (hi : E.T.get t = some i) (hd : i.desc = .map kt vt)
    (hm : R ρ m m') (hk : R ρ k k') (hkey : keyIn E i.desc k = true)
    (hes : mapOf h m = some es)
    (hv : (match mapFind E h kt k es, E.T.get vt with
          | some (some e), _ => some (match commaOk with
            | true => .tup [e.val, .sc (.bool true)]
            | false => e.val)
          | some none, some vi => match zeroA vi with
            | some z => some (match commaOk with
              | true => .tup [z, .sc (.bool false)]
              | false => z)
            | none => none
          | _, _ => none) = some v) : ∃ y, (Instr.lookup t m' k' commaOk).run P w = .ok y w ∧ R ρ v y := by
  have hu := (ok.T _ _ hi).und
  rw [hd] at hu hkey
  simp only [keyIn] at hkey
  have hkt : ∃ ki, E.T.get kt = some ki := by
    cases hg : E.T.get kt with
    | some ki => exact ⟨ki, rfl⟩
    | none => simp [keyFits, hg] at hkey
  obtain ⟨ki, hki⟩ := hkt
  have hck : ∀ b, (Instr.checkKey b 10000 kt k').run P w = .ok () w := fun b => checkKey_ok ok 4 (by omega) hk hkey
  have main : ∀ es', ER ρ es es'.toList → (∃ z, (Instr.findKey kt k' (es' : Array MapEntry).toList).run P w = .ok none w ∧ (zeroValue vt).run P w = .ok z w ∧
      R ρ v (if commaOk then .tuple #[z, .bool false] else z)) ∨ ∃ n z, (Instr.findKey kt k' (es' : Array MapEntry).toList).run P w = .ok (some (n, z)) w ∧
      R ρ v (if commaOk then .tuple #[z, .bool true] else z) := by
    intro es' hER
    cases hf : mapFind E h kt k es with
    | none => simp [hf] at hv
    | some res =>
      rcases mapFind_ok (w := w) (i := 0) ok hk hER hf with ⟨rfl, h1⟩ | ⟨m, n, x, rfl, h1, _, _, _, h2, _⟩
      · have h3 := findKey_run ok hki h1
        simp only [hf] at hv
        cases hvt : E.T.get vt with
        | none => simp [hvt] at hv
        | some vi =>
          simp only [hvt] at hv
          cases hz : zeroA vi with
          | none => simp [hz] at hv
          | some z =>
            simp only [hz, Option.some.injEq] at hv
            obtain ⟨z', h4, h5⟩ := R_zeroA (w := w) (ρ := ρ) (ok.T _ _ hvt) hz
            refine .inl ⟨z', h3, h4, ?_⟩
            subst hv
            cases commaOk
            · exact h5
            · simp only [if_true, R]
              exact ⟨_, rfl, by simp only [RL, R]; exact ⟨_, _, rfl, h5, _, _, rfl, rfl, rfl⟩⟩
      · have h3 := findKey_run ok hki h1
        simp only [hf, Option.some.injEq] at hv
        refine .inr ⟨_, x.val, h3, ?_⟩
        subst hv
        cases commaOk
        · exact h2
        · simp only [if_true, R]
          exact ⟨_, rfl, by simp only [RL, R]; exact ⟨_, _, rfl, h2, _, _, rfl, rfl, rfl⟩⟩
  unfold mapOf at hes
  cases m with
  | mp n =>
    simp only [] at hes
    split at hes
    · rename_i es0 clock ho
      cases hes
      simp only [R] at hm
      obtain ⟨l, hl, rfl⟩ := hm
      obtain ⟨es', h1, h2, _⟩ := run_getMap (P := P) r hl ho
      rcases main es' h2 with ⟨z, h3, h4, h5⟩ | ⟨n, z, h3, h5⟩
      · refine ⟨_, ?_, h5⟩
        simp only [Instr.lookup, Sem.run_bind, run_underlying hu, Result.andThen_ok, h1, Sem.run_pure, hck, h3, h4]
      · refine ⟨_, ?_, h5⟩
        simp only [Instr.lookup, Sem.run_bind, run_underlying hu, Result.andThen_ok, h1, Sem.run_pure, hck, h3]
    · cases hes
  | sc u =>
    cases u with
    | map q =>
      cases q with
      | none =>
        simp only [Option.some.injEq] at hes
        subst hes
        simp only [R] at hm
        subst hm
        rcases main #[] (by simp [ER]) with ⟨z, h3, h4, h5⟩ | ⟨n, z, h3, h5⟩
        · refine ⟨_, ?_, h5⟩
          simp only [Instr.lookup, Sem.run_bind, run_underlying hu, Result.andThen_ok, Sem.run_pure, hck, h3, h4]
        · refine ⟨_, ?_, h5⟩
          simp only [Instr.lookup, Sem.run_bind, run_underlying hu, Result.andThen_ok, Sem.run_pure, hck, h3]
      | some q => cases hes
    | _ => cases hes
  | _ => cases hes

theorem fieldOf_ok (ok : EnvOK P E) {t : TypeId} {f : Nat} {fd : Field} (hf : fieldOf E t f = some fd) : ∃ fs, P.underlying t = some (.struct fs) ∧ fs[f]? = some fd := by
  unfold fieldOf at hf
  split at hf
  · rename_i i hi
    have hu := (ok.T _ _ hi).und
    split at hf
    · rename_i fs hd
      rw [hd] at hu
      exact ⟨fs, hu, hf⟩
    · cases hf
  · cases hf

theorem lget_eq {α : Type} : ∀ (l : List α) (i : Nat), lget l i = l[i]?
  | [], i => by simp [lget]
  | a :: l, 0 => by simp [lget]
  | a :: l, i + 1 => by simp [lget, lget_eq l i]

set_option maxHeartbeats 2000000 in
theorem aopQ_ok (ok : EnvOK P E) (r : RelQ E.nG ρ h w) (he : EvOK E.nG ρ tm e) {o : Oper} {v : AV} (hv : aopQ E tm h o.op = some v) :
    ∃ y, (execOp e o).run P w = .ok (.value y) w ∧ R ρ v y := by
  rw [aopQ_def] at hv
  unfold aopQ0 at hv
  unfold execOp
  split at hv
  · -- move
    rename_i x hx
    rw [hx]
    exact ⟨_, rfl, he _ _ hv⟩
  · rename_i x hx
    rw [hx]
    exact ⟨_, rfl, he _ _ hv⟩
  · -- pick
    rename_i c a b hx
    rw [hx]
    split at hv
    · rename_i hc
      have h1 := he _ _ hc
      simp only [R] at h1
      exact ⟨_, by simp [h1, asBool], he _ _ hv⟩
    · rename_i hc
      have h1 := he _ _ hc
      simp only [R] at h1
      exact ⟨_, by simp [h1, asBool], he _ _ hv⟩
    · cases hv
  · -- build
    rename_i t parts hx
    rw [hx]
    refine fin_v ?_
    split at hv
    · rename_i i hi
      have hT := ok.T _ _ hi
      have hu := hT.und
      obtain ⟨z, hz1, hz2, hz3, hz4, hz5⟩ := run_zeroValue (w := w) hT
      have hzr : RL ρ i.zero z.cells.toList := by rw [← hz2]; exact RL_ofC _
      split at hv
      · rename_i fs hd
        rw [hd] at hu
        split at hv
        · rename_i hall
          split at hv
          · rename_i l hl
            split at hv
            · rename_i cs hcs
              cases hv
              have hpr := partsA_pr he hl
              obtain ⟨cs', h1, h2⟩ := fillA_ok hpr hzr hcs
              refine ⟨.agg cs', ?_, by simp only [R]; exact ⟨cs', rfl, h2⟩⟩
              have hm := run_mapM_fields (w := w) ok fs.toList (fun f hf => List.all_eq_true.1 hall f hf)
              have hma : (fs.mapM (fun (f : Field) => (do pure (f.offset, ← sizeOf f.type) : Sem (Nat × Nat)))).run P w = .ok (fs.toList.map fun (f : Field) => (f.offset, (sizeT E f.type).getD 0)).toArray w := by
                rw [Array.mapM_eq_mapM_toList]
                simp only [Sem.run_map, hm, Result.andThen_ok]
              have hplace : (fun (k : Nat) => ((fs.toList.map fun (f : Field) => (f.offset, (sizeT E f.type).getD 0)).toArray)[k]?) = (fun (k : Nat) => match (fs[k]? : Option Field) with
                  | some f => some (f.offset, (sizeT E f.type).getD 0)
                  | none => none) := by
                funext k
                simp only [List.getElem?_toArray, List.getElem?_map, Array.getElem?_toList]
                cases fs[k]? <;> rfl
              simp only [Instr.build, Sem.run_bind, hz1, Result.andThen_ok, run_underlying hu, hma]
              have h1' : Instr.fill (fun (k : Nat) => ((fs.toList.map fun (f : Field) => (f.offset, (sizeT E f.type).getD 0)).toArray)[k]?) z.cells (parts.toList.map fun p => (p.1, e p.2)) = some cs' := by
                rw [hplace]; exact h1
              rw [show (parts.map fun x => (x.1, e x.2)).toList = parts.toList.map fun p => (p.1, e p.2) from by simp, h1']
              rfl
            · cases hv
          · cases hv
        · cases hv
      · rename_i n el hd
        rw [hd] at hu
        split at hv
        · rename_i s hs
          have hsz := sizeT_ok (w := w) ok hs
          split at hv
          · rename_i l hl
            split at hv
            · rename_i cs hcs
              cases hv
              have hpr := partsA_pr he hl
              obtain ⟨cs', h1, h2⟩ := fillA_ok hpr hzr hcs
              refine ⟨.agg cs', ?_, by simp only [R]; exact ⟨cs', rfl, h2⟩⟩
              simp only [Instr.build, Sem.run_bind, hz1, Result.andThen_ok, run_underlying hu, hsz]
              rw [show (parts.map fun x => (x.1, e x.2)).toList = parts.toList.map fun p => (p.1, e p.2) from by simp, h1]
              rfl
            · cases hv
          · cases hv
        · cases hv
      · cases hv
    · cases hv
  · -- load
    rename_i t a hx
    rw [hx]
    split at hv
    · rename_i p hp
      obtain ⟨y, h1, h2, _⟩ := run_loadT ok r (he _ _ hp) hv
      exact fin_v ⟨y, h1, h2⟩
    · cases hv
  · -- nilCheck
    rename_i x hx
    rw [hx]
    split at hv
    · rename_i n o' hp
      cases hv
      have h1 := he _ _ hp
      have h2 := h1
      simp only [R] at h1
      obtain ⟨l, hl, h1⟩ := h1
      exact ⟨e x, by simp [h1], h2⟩
    · rename_i f a b hp
      cases hv
      have h1 := he _ _ hp
      have h2 := h1
      simp only [R] at h1
      obtain ⟨a', b', h1, _⟩ := h1
      exact ⟨e x, by simp [h1], h2⟩
    · rename_i t u hp
      cases hv
      have h1 := he _ _ hp
      have h2 := h1
      simp only [R] at h1
      obtain ⟨a', h1, _⟩ := h1
      exact ⟨e x, by simp [h1], h2⟩
    · rename_i n hp
      cases hv
      have h1 := he _ _ hp
      have h2 := h1
      simp only [R] at h1
      obtain ⟨l, hl, h1⟩ := h1
      exact ⟨e x, by simp [h1], h2⟩
    · cases hv
  · -- binOp
    rename_i op t x y yt hx
    rw [hx]
    split at hv
    · rename_i a b ha hb
      exact fin_v (abin_ok ok (he _ _ ha) (he _ _ hb) hv)
    · cases hv
  · -- unOp
    rename_i op t x hx
    rw [hx]
    split at hv
    · rename_i u hu
      have h1 := he _ _ hu
      simp only [R] at h1
      refine fin_v ?_
      rw [h1]
      exact pureSem_ok hv
    · cases hv
  · -- convert
    rename_i s d x hx
    rw [hx]
    split at hv
    · rename_i u hu
      exact fin_v (convQ_ok ok r (he _ _ hu) hv)
    · cases hv
  · -- makeInterface
    rename_i t x hx
    rw [hx]
    split at hv
    · rename_i u i hu hi
      have hun := (ok.T _ _ hi).und
      split at hv
      · cases hv
      · rename_i hni
        cases hv
        refine fin_v ⟨.iface t (e x), ?_, by simp only [R]; exact ⟨_, rfl, he _ _ hu⟩⟩
        simp only [Instr.makeInterface, Sem.run_bind, run_underlying hun, Result.andThen_ok]
        cases hd : i.desc <;> first | rfl | exact absurd hd (hni _)
    · cases hv
  · -- makeFunc
    rename_i f first captured hx
    rw [hx]
    split at hv
    · cases hv
    · split at hv
      · rename_i a b ha hb
        cases hv
        refine fin_v ⟨.func f (first.map e) (captured.map e), by simp [Instr.makeFunc], ?_⟩
        simp only [R]
        exact ⟨_, _, rfl, by simpa using evs_ok he ha, by simpa using evs_ok he hb⟩
      · cases hv
  · -- slice
    rename_i t x lo hi mx hx
    rw [hx]
    refine fin_v ?_
    split at hv
    · rename_i u lo1 hi1 mx1 i hu hlo hhi hmx hi'
      have hun := (ok.T _ _ hi').und
      have hxv := he _ _ hu
      have h1 := evO_ok he hlo
      have h2 := evO_ok he hhi
      have h3 := evO_ok he hmx
      split at hv
      · rename_i l hd
        rw [hd] at hun
        simp only [R] at hxv
        obtain ⟨hxe, hl⟩ := hxv
        split at hv
        · cases hv
        · split at hv
          · rename_i l1 hh m hb
            cases hv
            cases mx with
            | some m => exact h3.elim
            | none =>
              obtain ⟨g1, g2, g3, g4⟩ := bnds_ok (P := P) (w := w) false h1 h2 h3 hb (Nat.le_refl _)
              refine ⟨.string ((toB l).extract l1 hh), ?_, ?_⟩
              · rw [hxe]
                simp only [Instr.sliceAt, Instr.slice, Sem.run_bind, run_underlying hun, Result.andThen_ok, Option.map_none, Option.isSome_none, Bool.false_eq_true, if_false, size_toB]
                simp only [Option.map_none] at g1
                simp [g1]
              · simp only [R]
                refine ⟨?_, fun n hn => hl n (List.mem_of_mem_drop (List.mem_of_mem_take hn))⟩
                congr 1
                apply ByteArray.ext
                rw [ByteArray.data_extract]
                simp [toB, List.extract_eq_take_drop, List.map_take, List.map_drop]
          · cases hv
      · rename_i el n off len cap hd
        rw [hd] at hun
        split at hv
        · rename_i s hs
          have hsz := sizeT_ok (w := w) ok hs
          have hxv' := hxv
          simp only [R] at hxv
          obtain ⟨l, hl, hsl⟩ := hxv
          have fin : ∀ C, e x = .slice (some (l.at off)) len C → CapOk l off len s cap C → slcA n off len cap s lo1 hi1 mx1 = some v →
              ∃ y, (Instr.sliceAt t (e x) (lo.map e) (hi.map e) (mx.map e)).run P w = .ok y w ∧ R ρ v y := by
            intro C hxe hcap hv
            obtain ⟨a, b, m, g1, g2⟩ := slcA_ok (P := P) (w := w) true h1 h2 h3 hl hcap hv
            refine ⟨_, ?_, g2⟩
            rw [hxe]
            simp only [Instr.sliceAt, Instr.slice, Sem.run_bind, run_underlying hun, Result.andThen_ok, g1, hsz, Sem.run_pure]
            split <;> rfl
          cases cap with
          | some c => exact fin _ hsl rfl hv
          | none =>
            obtain ⟨q1, q2, q3⟩ := hsl
            simp only [] at hv
            split at hv
            · rename_i t' sz' d' el' s' g' ho
              split at hv
              · rename_i hbeq
                rw [Nat.beq_eq] at hbeq
                have hor := obj_cells r hl ho
                exact fin _ q3 ⟨q1, hor.1.trans hbeq, q2, rfl⟩ hv
              · cases hv
            · cases hv
        · cases hv
      · rename_i el hd
        rw [hd] at hun
        split at hv
        · rename_i s q hs hb
          cases hv
          obtain ⟨l1, hh, m⟩ := q
          simp only [R] at hxv
          obtain ⟨g1, g2, g3, g4⟩ := bnds_ok (P := P) (w := w) true h1 h2 h3 hb (Nat.le_refl _)
          have hm0 : m.getD 0 = 0 := by
            cases m with
            | none => rfl
            | some k => have := g3 k rfl; simp; omega
          have hh0 : hh = 0 := by
            cases m with
            | none => rcases g4 rfl with h | h <;> omega
            | some k => have := g3 k rfl; omega
          have hl0 : l1 = 0 := by omega
          have hsz := sizeT_ok (w := w) ok hs
          refine sc_ok ?_
          rw [hxv]
          simp only [Instr.sliceAt, Instr.slice, Sem.run_bind, run_underlying hun, Result.andThen_ok, g1, hsz, Sem.run_pure, hm0, hh0, hl0]
          rfl
        · cases hv
      · rename_i n el m off hd
        rw [hd] at hun
        split at hv
        · rename_i s hs
          have hsz := sizeT_ok (w := w) ok hs
          simp only [R] at hxv
          obtain ⟨l, hl, hxe⟩ := hxv
          obtain ⟨a, b, m, g1, g2⟩ := slcA_ok (P := P) (w := w) false h1 h2 h3 hl (C := n) (cap := some n) rfl hv
          refine ⟨_, ?_, g2⟩
          rw [hxe]
          simp only [Instr.sliceAt, Instr.sureAddr, Sem.run_bind, run_underlying hun, Result.andThen_ok, g1, hsz, Sem.run_pure]
        · cases hv
      · cases hv
    · cases hv
  · -- fieldAddr
    rename_i s x f hx
    rw [hx]
    refine fin_v ?_
    split at hv
    · rename_i n off fd hu hfd
      split at hv
      · rename_i k hk
        cases hv
        have hsz := sizeT_ok (w := w) ok hk
        obtain ⟨fs, hun, hfs⟩ := fieldOf_ok ok hfd
        have hxv := he _ _ hu
        simp only [R] at hxv
        obtain ⟨l, hl, hxe⟩ := hxv
        refine ⟨.pointer (some (l.at (off + fd.offset))), ?_, by simp only [R]; exact ⟨l, hl, rfl⟩⟩
        rw [hxe]
        simp [Instr.fieldAt, run_underlying hun, hfs, Instr.sureAddr, fieldPlace, hsz, at_add]
      · cases hv
    · cases hv
  · -- field
    rename_i t x f hx
    rw [hx]
    refine fin_v ?_
    split at hv
    · rename_i cs fd hu hfd
      obtain ⟨fs, hun, hfs⟩ := fieldOf_ok ok hfd
      have hxv := he _ _ hu
      simp only [R] at hxv
      obtain ⟨xs, hxe, hxs⟩ := hxv
      obtain ⟨y, h1, h2⟩ := part_ok (w := w) ok hxs hv
      refine ⟨y, ?_, h2⟩
      rw [hxe]
      simp [Instr.field, run_underlying hun, hfs, asAgg, h1]
    · cases hv
  · -- indexAddr
    rename_i t x ix hx
    rw [hx]
    refine fin_v ?_
    split at hv
    · rename_i u iv i hu hiv hi
      have hun := (ok.T _ _ hi).und
      have hxv := he _ _ hu
      have hix := he _ _ hiv
      split at hv
      · rename_i k len el n off hk hd
        rw [hd] at hun
        obtain ⟨kk, hke⟩ := natOf_ok hix hk
        split at hv
        · rename_i s hs
          have hsz := sizeT_ok (w := w) ok hs
          split at hv
          · rename_i hlt
            cases hv
            rw [Nat.blt_eq] at hlt
            simp only [R] at hxv
            obtain ⟨l, hl, hxe⟩ := hxv
            refine ⟨.pointer (some (l.at (off + k * s))), ?_, by simp only [R]; exact ⟨l, hl, rfl⟩⟩
            rw [hxe, hke]
            have : (0 : Int) ≤ Int.ofNat k ∧ Int.ofNat k < (len : Int) := ⟨by simp, by simp; exact hlt⟩
            simp [Instr.indexAt, asIntOf, run_underlying hun, Instr.sureAddr, hlt, hsz, at_add]
          · cases hv
        · cases hv
      · rename_i k el n off len cap hk hd
        rw [hd] at hun
        obtain ⟨kk, hke⟩ := natOf_ok hix hk
        split at hv
        · rename_i s hs
          have hsz := sizeT_ok (w := w) ok hs
          split at hv
          · rename_i hlt
            cases hv
            rw [Nat.blt_eq] at hlt
            simp only [R] at hxv
            obtain ⟨l, hl, hsl⟩ := hxv
            have hxe : ∃ c, e x = .slice (some (l.at off)) len c := by
              cases cap with
              | none => obtain ⟨_, _, h⟩ := hsl; exact ⟨_, h⟩
              | some c => exact ⟨_, hsl⟩
            obtain ⟨c, hxe⟩ := hxe
            refine ⟨.pointer (some (l.at (off + k * s))), ?_, by simp only [R]; exact ⟨l, hl, rfl⟩⟩
            rw [hxe, hke]
            simp [Instr.indexAt, asIntOf, run_underlying hun, hlt, hsz, at_add]
          · cases hv
        · cases hv
      · cases hv
    · cases hv
  · -- index
    rename_i t x ix hx
    rw [hx]
    refine fin_v ?_
    split at hv
    · rename_i u iv i hu hiv hi
      have hun := (ok.T _ _ hi).und
      have hxv := he _ _ hu
      have hix := he _ _ hiv
      split at hv
      · rename_i k len el cs hk hd
        rw [hd] at hun
        obtain ⟨kk, hke⟩ := natOf_ok hix hk
        split at hv
        · rename_i s hs
          have hsz := sizeT_ok (w := w) ok hs
          split at hv
          · rename_i hlt
            rw [Nat.blt_eq] at hlt
            simp only [R] at hxv
            obtain ⟨xs, hxe, hxs⟩ := hxv
            obtain ⟨y, h1, h2⟩ := part_ok (w := w) ok hxs hv
            refine ⟨y, ?_, h2⟩
            rw [hxe, hke]
            simp [Instr.index, asIntOf, run_underlying hun, hlt, hsz, h1]
          · cases hv
        · cases hv
      · rename_i k l hk hd
        rw [hd] at hun
        obtain ⟨kk, hke⟩ := natOf_ok hix hk
        split at hv
        · rename_i n hn
          cases hv
          simp only [R] at hxv
          obtain ⟨hxe, hl⟩ := hxv
          rw [lget_eq] at hn
          have hmem : n ∈ l := List.mem_of_getElem? hn
          have hlt : k < l.length := by
            rcases Nat.lt_or_ge k l.length with h | h
            · exact h
            · rw [List.getElem?_eq_none h] at hn; cases hn
          have hb : (toB l)[k]? = some (UInt8.ofNat n) := by
            have : k < (toB l).size := by rw [size_toB]; exact hlt
            rw [ByteArray.getElem?_lt' _ _ this]
            congr 1
            show (toB l).data[k]'_ = _
            simp only [toB, List.getElem_toArray, List.getElem_map]
            rw [List.getElem?_eq_getElem hlt] at hn
            cases hn
            rfl
          refine sc_ok ?_
          rw [hxe, hke]
          simp [Instr.index, asIntOf, run_underlying hun, hb]
          have := hl n hmem
          omega
        · cases hv
      · cases hv
    · cases hv
  · -- lookup
    rename_i t x ix commaOk hx
    rw [hx]
    refine fin_v ?_
    split at hv
    · rename_i m k i hm hk hi
      split at hv
      · rename_i kt vt hd hkey
        split at hv
        · cases hv
        · rename_i es hes
          exact lookup_ok ok r hi hd (he _ _ hm) (he _ _ hk) hkey hes hv
      · cases hv
    · cases hv
  · -- extract
    rename_i x ix hx
    rw [hx]
    refine fin_v ?_
    split at hv
    · rename_i vs hu
      have hxv := he _ _ hu
      simp only [R] at hxv
      obtain ⟨xs, hxe, hxs⟩ := hxv
      obtain ⟨y, h1, h2⟩ := RL_get hxs hv
      refine ⟨y, ?_, h2⟩
      have : xs[ix]? = some y := by simpa using h1
      rw [hxe]
      simp [Instr.extract, this]
    · cases hv
  · -- typeAssert
    rename_i x xt t commaOk hx
    rw [hx]
    refine fin_v ?_
    split at hv
    · rename_i u q i hu hi
      have hun := (ok.T _ _ hi).und
      have hxv := he _ _ hu
      simp only [R] at hxv
      obtain ⟨q', hxe, hq⟩ := hxv
      split at hv
      · cases hv
      · rename_i hni
        split at hv
        · rename_i hut
          subst hut
          cases hv
          refine ⟨if commaOk then .tuple #[q', .bool true] else q', ?_, ?_⟩
          · rw [hxe]
            simp only [Instr.typeAssert, Sem.run_bind, run_underlying hun, Result.andThen_ok]
            cases hd : i.desc <;> first | exact absurd hd (hni _) | (cases commaOk <;> simp)
          · cases commaOk
            · exact hq
            · simp only [if_true, R]
              exact ⟨_, rfl, by simp only [RL, R]; exact ⟨_, _, rfl, hq, _, _, rfl, rfl, rfl⟩⟩
        · rename_i hut
          split at hv
          · rename_i z hz
            cases hv
            obtain ⟨z', h4, h5⟩ := R_zeroA (w := w) (ρ := ρ) (ok.T _ _ hi) hz
            refine ⟨.tuple #[z', .bool false], ?_, ?_⟩
            · rw [hxe]
              simp only [Instr.typeAssert, Sem.run_bind, run_underlying hun, Result.andThen_ok]
              cases hd : i.desc <;> first | exact absurd hd (hni _) | simp [hut, h4]
            · simp only [R]
              exact ⟨_, rfl, by simp only [RL, R]; exact ⟨_, _, rfl, h5, _, _, rfl, rfl, rfl⟩⟩
          · cases hv
    · rename_i i hu hi
      have hun := (ok.T _ _ hi).und
      have hxv := he _ _ hu
      simp only [R] at hxv
      split at hv
      · rename_i z hz
        cases hv
        obtain ⟨z', h4, h5⟩ := R_zeroA (w := w) (ρ := ρ) (ok.T _ _ hi) hz
        refine ⟨.tuple #[z', .bool false], ?_, ?_⟩
        · rw [hxv]
          simp only [Instr.typeAssert, Sem.run_bind, run_underlying hun, Result.andThen_ok]
          cases hd : i.desc <;> simp [h4]
        · simp only [R]
          exact ⟨_, rfl, by simp only [RL, R]; exact ⟨_, _, rfl, h5, _, _, rfl, rfl, rfl⟩⟩
      · cases hv
    · cases hv
  · -- call
    rename_i c hx
    rw [hx]
    split at hv
    · cases hv
    · rename_i args hargs
      have ha := evs_ok he hargs
      split at hv
      · rename_i b hb
        obtain ⟨y, h1, h2⟩ := builtinQ_ok (P := P) (ty := o.type) (cs := c.args.map fun | .const _ => true | _ => false) ok r (args' := c.args.map e) (by simpa using ha) hv
        refine ⟨y, ?_, h2⟩
        simp only [resolve, hb, Sem.run_bind, Sem.run_pure, Result.andThen_ok, invoke]
        exact h1
      · cases hv
  · cases hv
end
end Go.Eng
