/- A layer of this session's own between the model and the proofs: an intermediate form of the code (sizes and zero values resolved), and what it does over a heap of ids, in which no order, no capacity and no block number is drawn. Definitions alone. -/
import Derived.Orders
import Derived.Tactics
namespace Go.Proofs.YtpklgklmjhblpaaI
set_option linter.unusedSimpArgs false
set_option linter.unusedVariables false
open Go

/-- A slice's capacity from here on is not known: 'UNK + e', e cells an element. -/
def UNK : Nat := 9223372036854775808

inductive IObj where
  | cells (cs : List Value) (ro : Bool)
  | map (es : List MapEntry) (clock : Nat)
  | iter (o : Obj)
  | dead
  deriving Inhabited

/-- The value of one cell. -/
def one1 : Value → Bool
  | .agg _ | .tuple _ => false
  | _ => true

structure IHeap where
  get : Nat → Option IObj
  next : Nat

def IHeap.set (H : IHeap) (i : Nat) (o : IObj) : IHeap := { H with get := fun j => if j = i then some o else H.get j }
def IHeap.alloc (H : IHeap) (o : IObj) : IHeap := { get := fun j => if j = H.next then some o else H.get j, next := H.next + 1 }
def IHeap.loadL (H : IHeap) (b o n : Nat) : Option (List Value) :=
  match H.get b with
  | some (.cells cs _) => if o + n ≤ cs.length then some ((cs.drop o).take n) else none
  | _ => none
def IHeap.load1 (H : IHeap) (b o : Nat) : Option Value :=
  match H.get b with
  | some (.cells cs _) => cs[o]?
  | _ => none
def putAt (cs : List Value) (o : Nat) (vs : List Value) : List Value := cs.take o ++ vs ++ cs.drop (o + vs.length)
def IHeap.storeL (H : IHeap) (b o : Nat) (vs : List Value) : Option IHeap :=
  match H.get b with
  | some (.cells cs false) => if o + vs.length ≤ cs.length ∧ vs.all one1 = true then some (H.set b (.cells (putAt cs o vs) false)) else none
  | _ => none

abbrev Env := Nat → Value
def Env.put (T : Env) (d : Option Nat) (v : Value) : Env :=
  match d with
  | some d => fun t => if t = d then v else T t
  | none => T
def ev (T : Env) : Operand → Value
  | .tmp t => T t
  | .const v => v
  | .global g => .pointer (some ⟨g, 0, none⟩)
  | .func f => .func (.func f) #[] #[]

def pureRun {α : Type} (P : Program) : Sem α → Option α
  | .pure a => some a
  | .program k => pureRun P (k P)
  | .mark _ k => pureRun P k
  | _ => none

def scal1 : Value → Bool
  | .bool _ | .int _ _ | .float _ _ | .complex _ _ _ | .string _ => true
  | _ => false
def scal : Value → Bool
  | .agg cs => cs.toList.all scal1
  | v => scal1 v

/-- A cell's kind. -/
inductive KS where
  | b
  | i (k : IntKind)
  | s
  deriving DecidableEq

/-- An operation, its sizes resolved. -/
inductive IOp where
  | raw (o : Op) (ty : TypeId)
  | move (x : Operand)
  | pick (c a b : Operand)
  | alloc (cells : List Value)
  | box (x : Operand)
  | build (zero : List Value) (parts : List ((Nat × Nat) × Operand))
  | buildSlice (len : Nat) (zero : List Value) (parts : List ((Nat × Nat) × Operand))
  | load1 (a : Operand)
  | loadN (n : Nat) (a : Operand)
  | store (n : Nat) (a x : Operand)
  | nilCheck (x : Operand)
  | eqNil (kd : Nat) (neg : Bool) (x : Operand)
  | mkIface (t : TypeId) (x : Operand)
  | mkFunc (f : FuncId) (first captured : List Operand)
  | mkMap
  | mkSlice (bytes : Nat) (zero : List Value) (l c : Operand)
  | strBytes (x : Operand)
  | bytesStr (x : Operand)
  | sliceSl (size : Nat) (x : Operand) (lo hi mx : Option Operand)
  | sliceArr (n size : Nat) (x : Operand) (lo hi mx : Option Operand)
  | fieldAddr (off : Nat) (x : Operand)
  | part1 (off : Nat) (x : Operand)
  | partN (off n : Nat) (x : Operand)
  | idxSl (size : Nat) (x i : Operand)
  | idxArr (len size : Nat) (x i : Operand)
  | idxAgg1 (len : Nat) (x i : Operand)
  | idxAggN (len size : Nat) (x i : Operand)
  | lenSl (x : Operand)
  | capSl (x : Operand)
  | lenMap (x : Operand)
  | extract (x : Operand) (i : Nat)
  | assertT (t : TypeId) (zero : Value) (ok : Bool) (x : Operand)
  | lookup (kt : TypeId) (zero : Value) (ok : Bool) (m k : Operand)
  | mapUpdate (kt : TypeId) (m k v : Operand)
  | delete (kt : TypeId) (m k : Operand)
  | clearSl (zero : List Value) (x : Operand)
  | copy (size : Nat) (d s : Operand)
  | append (size bytes : Nat) (s x : Operand)
  | appendStr (s x : Operand)
  | appendZ (bytes : Nat) (zero : List Value) (s n : Operand)
  | call (f : FuncId) (args : List Operand)
  | callDyn (f : Operand) (args : List Operand)
  | bin (op : BinOp) (x y : Operand)
  | eqv (neg : Bool) (sh : List KS) (x y : Operand)
  | un (op : UnOp) (x : Operand)
  | conv (k : IntKind) (x : Operand)
  | strLen (x : Operand)
  | mxn (mx : Bool) (x y : Operand)
  | strIdx (x i : Operand)
  | strSl (x : Operand) (lo hi : Option Operand)
  | never
  deriving Inhabited

structure IOper where
  dst : Option Nat
  op : IOp
  guard : Option (Nat × Bool)
  deriving Inhabited

inductive ICode where
  | skip
  | ops (l : List IOper)
  | draw (l : List (IOper × List IOper))
  | seq (a b : ICode)
  | cond (c : Operand) (a b : ICode)
  | block (id : Nat) (a : ICode)
  | loop (a : ICode)
  | exit (id : Nat)
  | ret
  deriving Inhabited

def strV (l : List UInt8) : Value := .string ⟨l.toArray⟩

/-- Two ints' operation. -/
def int2 (op : BinOp) (k : IntKind) (a b : Int) : Option Value :=
  match op with
  | .add => some (.int k (k.wrap (a + b)))
  | .sub => some (.int k (k.wrap (a - b)))
  | .mul => some (.int k (k.wrap (a * b)))
  | .quo => if b = 0 then none else some (.int k (k.wrap (a.tdiv b)))
  | .rem => if b = 0 then none else some (.int k (a.tmod b))
  | .and => some (.int k (k.wrap (BitVec.ofInt k.bits a &&& BitVec.ofInt k.bits b).toNat))
  | .or => some (.int k (k.wrap (BitVec.ofInt k.bits a ||| BitVec.ofInt k.bits b).toNat))
  | .xor => some (.int k (k.wrap (BitVec.ofInt k.bits a ^^^ BitVec.ofInt k.bits b).toNat))
  | .andNot => some (.int k (k.wrap (BitVec.ofInt k.bits a &&& ~~~ BitVec.ofInt k.bits b).toNat))
  | .eql => some (.bool (decide (a = b)))
  | .neq => some (.bool (decide (a ≠ b)))
  | .lss => some (.bool (decide (a < b)))
  | .leq => some (.bool (decide (a ≤ b)))
  | .gtr => some (.bool (decide (b < a)))
  | .geq => some (.bool (decide (b ≤ a)))
  | _ => none

def shf2 (op : BinOp) (k : IntKind) (a b : Int) : Option Value :=
  if b < 0 then none
  else match op with
    | .shl => some (.int k (k.wrap (a * 2 ^ min b.toNat k.bits)))
    | .shr => some (.int k (a.fdiv (2 ^ min b.toNat k.bits)))
    | _ => none

/-- Two texts' operation. -/
def str2 (op : BinOp) (a b : List UInt8) : Option Value :=
  match op with
  | .add => if ((a.length + b.length : Nat) : Int) > IntKind.i64.max then none else some (strV (a ++ b))
  | .eql => some (.bool (decide (a = b)))
  | .neq => some (.bool (decide (a ≠ b)))
  | .lss => some (.bool (Op.bytesLess a b))
  | .leq => some (.bool (Op.bytesLess a b || decide (a = b)))
  | .gtr => some (.bool (!(Op.bytesLess a b || decide (a = b))))
  | .geq => some (.bool (!Op.bytesLess a b))
  | _ => none

def bin2 (op : BinOp) (x y : Value) : Option Value :=
  match x, y with
  | .int k a, .int k' b => match op with
    | .shl | .shr => shf2 op k a b
    | _ => if k = k' then int2 op k a b else none
  | .string a, .string b => str2 op a.data.toList b.data.toList
  | _, _ => none

def un1 (op : UnOp) (x : Value) : Option Value :=
  match op, x with
  | .not, .bool b => some (.bool !b)
  | .neg, .int k n => some (.int k (k.wrap (0 - n)))
  | .xor, .int k n => int2 .xor k (if k.signed then -1 else k.max) n
  | _, _ => none

/-- Are cells of these kinds? -/
def shOk : List KS → List Value → Bool
  | [], [] => true
  | .b :: sh, .bool _ :: l => shOk sh l
  | .i k :: sh, .int k' _ :: l => decide (k = k') && shOk sh l
  | .s :: sh, .string _ :: l => shOk sh l
  | _, _ => false
def eq1 : Value → Value → Bool
  | .bool a, .bool b => a == b
  | .int _ a, .int _ b => decide (a = b)
  | .string a, .string b => decide (a = b)
  | _, _ => false
def eqL : List Value → List Value → Bool
  | [], [] => true
  | a :: x, b :: y => eq1 a b && eqL x y
  | _, _ => false

def fillL (cs : List Value) : List ((Nat × Nat) × Value) → Option (List Value)
  | [] => some cs
  | ((off, size), v) :: r => if v.cells.size = size ∧ off + v.cells.size ≤ cs.length then fillL (putAt cs off v.cells.toList) r else none

def bytesL : List Value → Option (List UInt8)
  | [] => some []
  | .int .u8 n :: r => (bytesL r).map (UInt8.ofNat n.toNat :: ·)
  | _ => none

/-- Is a value of this kind (0 a pointer, 1 a slice, 2 a map, 3 a function, 4 an interface) nil? -/
def nilOf : Nat → Value → Option Bool
  | 0, .pointer a => some a.isNone
  | 1, .slice a _ _ => some a.isNone
  | 2, .map r => some r.isNone
  | 3, .func .. => some false
  | 3, .nilFunc => some true
  | 4, .iface .. => some false
  | 4, .nilIface => some true
  | _, _ => none

def intOfV : Value → Option Int
  | .int _ n => some n
  | _ => none

def natI (T : Env) (x : Operand) : Option Nat :=
  match ev T x with
  | .int _ i => if 0 ≤ i then some i.toNat else none
  | _ => none

/-- The bounds of a slice: low, high, the bound of a full one. -/
def boundsI (T : Env) (len : Nat) (lo hi mx : Option Operand) : Option (Nat × Nat × Option Nat) :=
  match (match mx with | some v => (natI T v).map some | none => some none), (match hi with | some v => natI T v | none => if mx.isSome then none else some len), (match lo with | some v => natI T v | none => some 0) with
  | some m, some h, some l => if l ≤ h ∧ h ≤ m.getD h then some (l, h, m) else none
  | _, _, _ => none

/-- Are there so many cells? -/
def fitsI (H : IHeap) (b k : Nat) : Bool :=
  match H.get b with
  | some (.cells cs _) => decide (k ≤ cs.length)
  | _ => false

def sliceI (H : IHeap) (size : Nat) (a : Option Addr) (len cap l h : Nat) (m : Option Nat) : Option Value :=
  if cap < UNK then
    if h ≤ m.getD cap ∧ m.getD cap ≤ cap then some (.slice (if m.getD cap = l then a else a.map (·.add (l * size))) (h - l) (m.getD cap - l)) else none
  else match a with
    | some ⟨b, o, none⟩ =>
      if cap = UNK + size ∧ 0 < size ∧ (m.getD h ≤ len ∨ fitsI H b (o + m.getD h * size) = true) then
        match m with
        | none => some (.slice (some ⟨b, o + l * size, none⟩) (h - l) cap)
        | some x => if x < UNK then some (.slice (some (if x = l then ⟨b, o, none⟩ else ⟨b, o + l * size, none⟩)) (h - l) (x - l)) else none
      else none
    | _ => none

/-- Where a key stands among a map's entries. -/
def findI (P : Program) (kt : TypeId) (k : Value) : List MapEntry → Nat → Option (Option Nat)
  | [], _ => some none
  | e :: es, i =>
    match pureRun P (Op.equal kt k e.key) with
    | some true => some (some i)
    | some false => findI P kt k es (i + 1)
    | none => none

def keyOk (P : Program) (kt : TypeId) (k : Value) (es : List MapEntry) : Bool :=
  scal k && es.all (fun e => scal e.key) && (pureRun P (Instr.checkKey es.isEmpty 10000 kt k)).isSome && (pureRun P (Instr.checkKey false 10000 kt k)).isSome

/-- A map's entries. -/
def entriesI (H : IHeap) : Value → Option (List MapEntry)
  | .map none => some []
  | .map (some r) => match H.get r with
    | some (.map es _) => some es
    | _ => none
  | _ => none

/-- What an operation that turns nothing yields. -/
def ird (P : Program) (T : Env) (H : IHeap) : IOp → Option Value
  | .raw o ty =>
    if o.operands.toList.all (fun x => scal (ev T x)) = true then
      match pureRun P (execOp (ev T) ⟨none, o, ty, "", #[], none⟩) with
      | some (.value v) => if scal v = true then some v else none
      | _ => none
    else none
  | .move x => some (ev T x)
  | .pick c a b => match ev T c with
    | .bool t => some (bif t then ev T a else ev T b)
    | _ => none
  | .build zero parts => (fillL zero (parts.map fun p => (p.1, ev T p.2))).map fun l => .agg l.toArray
  | .nilCheck x => match ev T x with
    | .pointer (some a) => some (.pointer (some a))
    | .iface t v => some (.iface t v)
    | .func (.func f) a b => some (.func (.func f) a b)
    | _ => none
  | .eqNil kd neg x => (nilOf kd (ev T x)).map fun b => .bool (b != neg)
  | .mkIface t x => some (.iface t (ev T x))
  | .mkFunc f first captured => some (.func (.func f) (first.map (ev T)).toArray (captured.map (ev T)).toArray)
  | .fieldAddr off x => match ev T x with
    | .pointer (some ⟨b, o, none⟩) => some (.pointer (some ⟨b, o + off, none⟩))
    | _ => none
  | .part1 off x => match ev T x with
    | .agg cs => cs.toList[off]?
    | _ => none
  | .partN off n x => match ev T x with
    | .agg cs => if off + n ≤ cs.toList.length then some (.agg ((cs.toList.drop off).take n).toArray) else none
    | _ => none
  | .idxSl size x i => match ev T x, ev T i with
    | .slice (some ⟨b, o, none⟩) len _, .int _ i => if 0 ≤ i ∧ i < (len : Int) then some (.pointer (some ⟨b, o + i.toNat * size, none⟩)) else none
    | _, _ => none
  | .idxArr len size x i => match ev T x, ev T i with
    | .pointer (some ⟨b, o, none⟩), .int _ i => if 0 ≤ i ∧ i < (len : Int) then some (.pointer (some ⟨b, o + i.toNat * size, none⟩)) else none
    | _, _ => none
  | .idxAgg1 len x i => match ev T x, ev T i with
    | .agg cs, .int _ i => if 0 ≤ i ∧ i < (len : Int) then cs.toList[i.toNat]? else none
    | _, _ => none
  | .idxAggN len size x i => match ev T x, ev T i with
    | .agg cs, .int _ i => if 0 ≤ i ∧ i < (len : Int) ∧ i.toNat * size + size ≤ cs.toList.length then some (.agg ((cs.toList.drop (i.toNat * size)).take size).toArray) else none
    | _, _ => none
  | .lenSl x => match ev T x with
    | .slice _ len _ => some (.int .i64 len)
    | _ => none
  | .capSl x => match ev T x with
    | .slice _ _ c => if c < UNK then some (.int .i64 c) else none
    | _ => none
  | .extract x i => match ev T x with
    | .tuple vs => vs.toList[i]?
    | _ => none
  | .assertT t zero ok x => match ev T x with
    | .iface t' v => if t' = t then some (if ok then .tuple #[v, .bool true] else v) else if ok then some (.tuple #[zero, .bool false]) else none
    | .nilIface => if ok then some (.tuple #[zero, .bool false]) else none
    | _ => none
  | .sliceSl size x lo hi mx => match ev T x with
    | .slice a len cap => match boundsI T len lo hi mx with
      | some (l, h, m) => sliceI H size a len cap l h m
      | none => none
    | _ => none
  | .sliceArr n size x lo hi mx => match ev T x with
    | .pointer (some ⟨b, o, none⟩) => match boundsI T n lo hi mx with
      | some (l, h, m) => if n < UNK then sliceI H size (some ⟨b, o, none⟩) n n l h m else none
      | none => none
    | _ => none
  | .load1 a => match ev T a with
    | .pointer (some ⟨b, o, none⟩) => H.load1 b o
    | _ => none
  | .loadN n a => match ev T a with
    | .pointer (some ⟨b, o, none⟩) => (H.loadL b o n).map fun l => .agg l.toArray
    | _ => none
  | .bytesStr x => match ev T x with
    | .slice none _ _ => some (.string .empty)
    | .slice (some ⟨b, o, none⟩) len _ => ((H.loadL b o len).bind bytesL).map fun l => .string ⟨l.toArray⟩
    | _ => none
  | .lenMap x => match ev T x with
    | .map none => some (.int .i64 0)
    | .map (some r) => match H.get r with
      | some (.map es _) => some (.int .i64 es.length)
      | _ => none
    | _ => none
  | .lookup kt zero ok m k =>
    match entriesI H (ev T m) with
    | some es =>
      if keyOk P kt (ev T k) es = true then
        match findI P kt (ev T k) es 0 with
        | some (some i) => match es[i]? with
          | some e => some (if ok then .tuple #[e.val, .bool true] else e.val)
          | none => none
        | some none => some (if ok then .tuple #[zero, .bool false] else zero)
        | none => none
      else none
    | none => none
  | .bin op x y => bin2 op (ev T x) (ev T y)
  | .eqv neg sh x y => match ev T x, ev T y with
    | .agg a, .agg b => if sh ≠ [] ∧ shOk sh a.toList = true ∧ shOk sh b.toList = true then some (.bool (eqL a.toList b.toList != neg)) else none
    | .bool a, .bool b => if sh = [] then some (.bool ((a == b) != neg)) else none
    | _, _ => none
  | .un op x => un1 op (ev T x)
  | .conv k x => match ev T x with
    | .int _ n => some (.int k (k.wrap n))
    | _ => none
  | .strLen x => match ev T x with
    | .string s => some (.int .i64 s.data.toList.length)
    | _ => none
  | .mxn mx x y => match ev T x, ev T y with
    | .int k a, .int _ b => some (.int k (if mx then (if b > a then b else a) else (if b < a then b else a)))
    | _, _ => none
  | .strIdx x i => match ev T x, ev T i with
    | .string s, .int _ i => if 0 ≤ i then (s.data.toList[i.toNat]?).map fun b => .int .u8 b.toNat else none
    | _, _ => none
  | .strSl x lo hi => match ev T x with
    | .string s => match boundsI T s.data.toList.length lo hi none with
      | some (l, h, _) => if h ≤ s.data.toList.length then some (strV ((s.data.toList.drop l).take (h - l))) else none
      | none => none
    | _ => none
  | .never => none
  | _ => none

/-- What an operation makes that makes one new thing. -/
def ial (T : Env) : IOp → Option (IObj × (Nat → Value))
  | .alloc cells => some (.cells cells false, fun r => .pointer (some ⟨r, 0, none⟩))
  | .box x => some (.cells (ev T x).cells.toList false, fun r => .pointer (some ⟨r, 0, none⟩))
  | .buildSlice len zero parts => (fillL zero (parts.map fun p => (p.1, ev T p.2))).map fun l => (.cells l false, fun r => .slice (some ⟨r, 0, none⟩) len len)
  | .strBytes x => match ev T x with
    | .string s => some (.cells (s.data.toList.map fun b => .int .u8 b.toNat) false, fun r => .slice (some ⟨r, 0, none⟩) s.size (UNK + 1))
    | _ => none
  | .mkMap => some (.map [] 0, fun r => .map (some r))
  | .mkSlice bytes zero l c => match ev T l, ev T c with
    | .int _ l, .int _ c =>
      if 0 ≤ l ∧ l ≤ c ∧ c ≤ 17592186044416 ∧ c * bytes ≤ 17592186044416 then
        some (.cells ((Array.range (c.toNat * zero.length)).map (zero.toArray[· % zero.toArray.size]!)).toList false, fun r => .slice (some ⟨r, 0, none⟩) l.toNat c.toNat)
      else none
    | _, _ => none
  | _ => none

/-- The cells of a slice's first n elements. -/
def firstI (H : IHeap) (size n : Nat) : Value → Option (List Value)
  | .slice none _ _ => some []
  | .slice (some ⟨b, o, none⟩) _ _ => if n * size = 0 then some [] else H.loadL b o (n * size)
  | _ => none

/-- An append of cells: n elements of so many cells and bytes. -/
def appendI (H : IHeap) (size bytes : Nat) (s : Value) (n : Nat) (news : List Value) : Option (Value × IHeap) :=
  match s with
  | .slice a len cap =>
    if (len + n) * bytes ≤ 17592186044416 ∧ len + n ≤ 17592186044416 ∧ 0 < bytes ∧ 0 < size ∧ news.length = n * size then
      if n = 0 then (if len ≤ cap then some (.slice a len cap, H) else none)
      else match a with
        | none => if len = 0 ∧ cap = 0 then some (.slice (some ⟨H.next, 0, none⟩) n (UNK + size), H.alloc (.cells news false)) else none
        | some ⟨b, o, none⟩ =>
          if cap < UNK ∧ len + n ≤ cap then
            (H.storeL b (o + len * size) news).map fun H' => (.slice (some ⟨b, o, none⟩) (len + n) cap, H')
          else match firstI H size len s with
            | some old =>
              if cap < UNK then
                some (.slice (some ⟨H.next, 0, none⟩) (len + n) (UNK + size), H.alloc (.cells (old ++ news) false))
              else if cap = UNK + size then
                match H.get b with
                | some (.cells cs false) =>
                  if news.all one1 = true then
                    if o + (len + n) * size ≤ cs.length then
                      some (.slice (some ⟨b, o, none⟩) (len + n) cap, H.set b (.cells (putAt cs (o + len * size) news) false))
                    else if o ≤ cs.length then
                      some (.slice (some ⟨H.next, 0, none⟩) (len + n) (UNK + size), (H.set b .dead).alloc (.cells (old ++ news) false))
                    else none
                  else none
                | _ => none
              else none
            | none => none
        | _ => none
    else none
  | _ => none

def lenOfI : Value → Option Nat
  | .slice _ n _ => some n
  | _ => none

/-- What an operation does that turns the heap. -/
def iact (P : Program) (T : Env) (H : IHeap) : IOp → Option (Value × IHeap)
  | .store n a x => match ev T a with
    | .pointer (some ⟨b, o, none⟩) => if (ev T x).cells.toList.length = n then (H.storeL b o (ev T x).cells.toList).map fun H' => (undef, H') else none
    | _ => none
  | .append size bytes s x => match lenOfI (ev T x) with
    | some n => (firstI H size n (ev T x)).bind fun news => appendI H size bytes (ev T s) n news
    | none => none
  | .appendStr s x => match ev T x with
    | .string t => appendI H 1 1 (ev T s) t.size (t.data.toList.map fun b => .int .u8 b.toNat)
    | _ => none
  | .appendZ bytes zero s n => match ev T n with
    | .int _ k => if 0 ≤ k ∧ k * bytes ≤ 17592186044416 ∧ k ≤ 17592186044416 then appendI H zero.length bytes (ev T s) k.toNat (Builtin.zeroCells zero.toArray k.toNat).toList else none
    | _ => none
  | .copy size d s => match ev T d, lenOfI (ev T s) with
    | .slice a dl _, some sl =>
      (firstI H size (Nat.min sl dl) (ev T s)).bind fun cs =>
        if cs.length = 0 then some (.int .i64 (Nat.min sl dl), H) else
        match a with
        | some ⟨b, o, none⟩ => (H.storeL b o cs).map fun H' => (.int .i64 (Nat.min sl dl), H')
        | _ => none
    | _, _ => none
  | .clearSl zero x => match ev T x with
    | .slice none _ _ => some (.tuple #[], H)
    | .slice (some ⟨b, o, none⟩) n _ =>
      if n = 0 then some (.tuple #[], H) else (H.storeL b o (Builtin.zeroCells zero.toArray n).toList).map fun H' => (.tuple #[], H')
    | _ => none
  | .mapUpdate kt m k v => match ev T m with
    | .map (some r) => match H.get r with
      | some (.map es clock) =>
        if keyOk P kt (ev T k) es = true then
          match findI P kt (ev T k) es 0 with
          | some (some i) =>
            if Instr.sameBits 10000 (((es[i]?).map (·.key)).getD (ev T k)) (ev T k) = true then
              some (undef, H.set r (.map (es.modify i fun e => { e with key := ev T k, val := ev T v }) clock)) else none
          | some none => some (undef, H.set r (.map (es ++ [{ key := ev T k, val := ev T v, born := clock }]) (clock + 1)))
          | none => none
        else none
      | _ => none
    | _ => none
  | .delete kt m k => match ev T m with
    | .map (some r) => match H.get r with
      | some (.map es clock) =>
        if keyOk P kt (ev T k) es = true then
          match findI P kt (ev T k) es 0 with
          | some (some i) => some (.tuple #[], H.set r (.map (es.eraseIdx i) clock))
          | some none => some (.tuple #[], H.set r (.map es clock))
          | none => none
        else none
      | _ => none
    | _ => none
  | _ => none

inductive IKind where
  | rd | al | ac | ca
  deriving DecidableEq

def IOp.kind : IOp → IKind
  | .alloc _ | .box _ | .buildSlice .. | .strBytes _ | .mkMap | .mkSlice .. => .al
  | .store .. | .append .. | .appendStr .. | .appendZ .. | .copy .. | .clearSl .. | .mapUpdate .. | .delete .. => .ac
  | .call .. | .callDyn .. => .ca
  | _ => .rd

/-- Does what it yields hang on the heap? -/
def IOp.looks : IOp → Bool
  | .load1 _ | .loadN .. | .bytesStr _ | .lenMap _ | .lookup .. | .sliceSl .. => true
  | _ => false

abbrev CallT := FuncId → List Value → IHeap → (Value → IHeap → Prop) → Prop

def icall (C : CallT) (T : Env) (H : IHeap) (K : Value → IHeap → Prop) : IOp → Prop
  | .call f args => C f (args.map (ev T)) H K
  | .callDyn f args => match ev T f with
    | .func (.func g) first captured => C g (first.toList ++ args.map (ev T) ++ captured.toList) H K
    | _ => False
  | _ => False

/-- One operation. -/
def iop (P : Program) (C : CallT) (T : Env) (H : IHeap) (o : IOp) (K : Value → IHeap → Prop) : Prop :=
  match o.kind with
  | .rd => ∃ v, ird P T H o = some v ∧ K v H
  | .al => ∃ r, ial T o = some r ∧ K (r.2 H.next) (H.alloc r.1)
  | .ac => ∃ r, iact P T H o = some r ∧ K r.1 r.2
  | .ca => icall C T H K o

def wantedI (T : Env) : Option (Nat × Bool) → Bool
  | none => true
  | some (d, want) => match T d with
    | .bool b => b == want
    | _ => false

def iwpOps (P : Program) (C : CallT) : List IOper → (Env → IHeap → Prop) → Env → IHeap → Prop
  | [], K, T, H => K T H
  | o :: os, K, T, H =>
    match wantedI T o.guard with
    | true => iop P C T H o.op fun v H' => iwpOps P C os K (T.put o.dst v) H'
    | false => iwpOps P C os K (T.put o.dst undef) H

/-- Is what an operation yielded ahead yielded still? -/
def stillI (P : Program) (T : Env) (H : IHeap) (o : IOper) : Prop :=
  match wantedI T o.guard, o.dst with
  | true, some d => ird P T H o.op = some (T d)
  | true, none => (ird P T H o.op).isSome
  | false, _ => True

def stillAll (P : Program) (T : Env) (H : IHeap) : List IOper → Prop
  | [] => True
  | [o] => stillI P T H o
  | o :: os => stillI P T H o ∧ stillAll P T H os

def iwpDraw (P : Program) (C : CallT) : List (IOper × List IOper) → (Env → IHeap → Prop) → Env → IHeap → Prop
  | [], K, T, H => K T H
  | (o, st) :: os, K, T, H =>
    match wantedI T o.guard with
    | true => iop P C T H o.op fun v H' =>
        match st with
        | [] => iwpDraw P C os K (T.put o.dst v) H'
        | _ => stillAll P (T.put o.dst v) H' st ∧ iwpDraw P C os K (T.put o.dst v) H'
    | false => iwpDraw P C os K (T.put o.dst undef) H

def thenI (N : Env → IHeap → Prop) (Q : Exit → Env → IHeap → Prop) : Exit → Env → IHeap → Prop
  | .normal, T, H => N T H
  | e, T, H => Q e T H
def blockI (id : Nat) (Q : Exit → Env → IHeap → Prop) : Exit → Env → IHeap → Prop
  | .exit id', T, H => if id' = id then Q .normal T H else Q (.exit id') T H
  | e, T, H => Q e T H

/-- The least that is closed under a round. -/
def LoopI (B : (Exit → Env → IHeap → Prop) → Env → IHeap → Prop) (Q : Exit → Env → IHeap → Prop) (T : Env) (H : IHeap) : Prop :=
  ∀ X : Env → IHeap → Prop, (∀ T H, B (thenI X Q) T H → X T H) → X T H

def iwp (P : Program) (C : CallT) : ICode → (Exit → Env → IHeap → Prop) → Env → IHeap → Prop
  | .skip, Q, T, H => Q .normal T H
  | .ops l, Q, T, H => iwpOps P C l (Q .normal) T H
  | .draw l, Q, T, H => iwpDraw P C l (Q .normal) T H
  | .seq a b, Q, T, H => iwp P C a (thenI (iwp P C b Q) Q) T H
  | .cond c a b, Q, T, H => match ev T c with
    | .bool true => iwp P C a Q T H
    | .bool false => iwp P C b Q T H
    | _ => False
  | .block id a, Q, T, H => iwp P C a (blockI id Q) T H
  | .loop a, Q, T, H => LoopI (iwp P C a) Q T H
  | .exit id, Q, T, H => Q (.exit id) T H
  | .ret, Q, T, H => Q .ret T H

inductive IRes where
  | tmp (t : Nat)
  | cell1 (a : Nat)
  | cellN (a n : Nat)
  deriving Inhabited

structure IFunc where
  ntmps : Nat
  results : List IRes
  body : ICode
  deriving Inhabited

def ires1 (T : Env) (H : IHeap) : IRes → Option Value
  | .tmp t => some (T t)
  | .cell1 a => match T a with
    | .pointer (some ⟨b, o, none⟩) => H.load1 b o
    | _ => none
  | .cellN a n => match T a with
    | .pointer (some ⟨b, o, none⟩) => (H.loadL b o n).map fun l => .agg l.toArray
    | _ => none
def iresL (T : Env) (H : IHeap) : List IRes → Option (List Value)
  | [] => some []
  | r :: rs => match ires1 T H r with
    | some v => (iresL T H rs).map (v :: ·)
    | none => none
def ires (T : Env) (H : IHeap) (rs : List IRes) : Option Value :=
  match iresL T H rs with
  | some [v] => some v
  | some l => some (.tuple l.toArray)
  | none => none

def envOf (args : List Value) : Env := fun t => args.getD t undef

def retPost (g : IFunc) (K : Value → IHeap → Prop) : Exit → Env → IHeap → Prop
  | .ret, T, H | .normal, T, H => ∃ r, ires T H g.results = some r ∧ K r H
  | _, _, _ => False

def ibody (P : Program) (C : CallT) (g : IFunc) (args : List Value) (H : IHeap) (K : Value → IHeap → Prop) : Prop :=
  args.length ≤ g.ntmps ∧ iwp P C g.body (retPost g K) (envOf args) H

/-- A call: the least that is closed under the functions' texts, and what is known besides. -/
def ICall (P : Program) (IP : FuncId → Option IFunc) (X : CallT) (f : FuncId) (args : List Value) (H : IHeap) (K : Value → IHeap → Prop) : Prop :=
  ∀ Y : CallT, (∀ f args H K, (X f args H K ∨ ∃ g, IP f = some g ∧ ibody P Y g args H K) → Y f args H K) → Y f args H K

end Go.Proofs.YtpklgklmjhblpaaI
