/- The intermediate form's making: a function that the kernel runs, from the model's code. Definitions alone. -/
import Derived.Test.YtpklgklmjhblpaaIdealA
namespace Go.Proofs.YtpklgklmjhblpaaI
set_option linter.unusedSimpArgs false
set_option linter.unusedVariables false
open Go

def groundS : Value → Bool
  | .pointer none | .map none | .nilFunc | .nilIface => true
  | .slice none 0 0 => true
  | .tuple vs => vs.toList.isEmpty
  | v => scal1 v
/-- A value that holds no address. -/
def groundV : Value → Bool
  | .agg cs => cs.toList.all groundS
  | v => groundS v

def okO : Operand → Bool
  | .tmp _ => true
  | .const v => groundV v
  | .global _ => false
  | .func _ => true
def okOs (l : List Operand) : Bool := l.all okO

def aggT (P : Program) (t : TypeId) : Option Bool :=
  match P.underlying t with
  | some (.struct _) | some (.array _ _) => some true
  | some _ => some false
  | none => none
def sizeT (P : Program) (t : TypeId) : Option Nat := (P.info? t).map (·.size)
def bytesT (P : Program) (t : TypeId) : Option Nat := (P.info? t).map (·.bytes)
def zeroT (P : Program) (t : TypeId) : Option Value := ((P.info? t).bind (·.zero)).bind fun z => if groundV z then some z else none

def placesT (P : Program) : List Field → Option (List (Nat × Nat))
  | [] => some []
  | f :: fs => do let s ← sizeT P f.type; let r ← placesT P fs; pure ((f.offset, s) :: r)

def partsT (place : Nat → Option (Nat × Nat)) : List (Nat × Operand) → Option (List ((Nat × Nat) × Operand))
  | [] => some []
  | (i, x) :: r => do let p ← place i; let r ← partsT place r; pure ((p, x) :: r)

def nilKind : TypeDesc → Value → Option Nat
  | .pointer _, .pointer none => some 0
  | .slice _, .slice none 0 0 => some 1
  | .map _ _, .map none => some 2
  | .func _ _ _, .nilFunc => some 3
  | .interface _, .nilIface => some 4
  | _, _ => none

def compEq (P : Program) (o : Op) (ty : TypeId) (neg : Bool) (t : TypeId) (x y : Operand) : IOp :=
  match P.underlying t, x, y with
  | some d, x, .const v => match nilKind d v with
    | some k => .eqNil k neg x
    | none => .raw o ty
  | _, _, _ => .raw o ty

def compBuiltin (P : Program) (o : Op) (ty : TypeId) (b : Builtin) (tys : List TypeId) (args : List Operand) : Option IOp :=
  match b, tys, args with
  | .len, [t], [x] => match P.underlying t with
    | some (.slice _) => some (.lenSl x)
    | some (.map _ _) => some (.lenMap x)
    | some (.array n _) => some (.move (.const (.int .i64 n)))
    | some (.pointer a) => match P.underlying a with
      | some (.array n _) => some (.move (.const (.int .i64 n)))
      | _ => none
    | _ => some (.raw o ty)
  | .cap, [t], [x] => match P.underlying t with
    | some (.slice _) => some (.capSl x)
    | _ => none
  | .append, [t, u], [s, x] => match P.underlying t with
    | some (.slice e) => match P.underlying u, sizeT P e, bytesT P e, zeroT P e with
      | some (.slice _), some size, some bytes, some z => if z.cells.size = size then some (.append size bytes s x) else none
      | some .string, some 1, some 1, some z => if z.cells.size = 1 then some (.appendStr s x) else none
      | some (.int _), some size, some bytes, some z => if z.cells.size = size then some (.appendZ bytes z.cells.toList s x) else none
      | _, _, _, _ => none
    | _ => none
  | .copy, [t, u], [d, s] => match P.underlying t, P.underlying u with
    | some (.slice e), some (.slice _) => (sizeT P e).map fun size => .copy size d s
    | _, _ => none
  | .clear, [t], [x] => match P.underlying t with
    | some (.slice e) => (zeroT P e).bind fun z => if z.cells.size ≠ 0 then some (.clearSl z.cells.toList x) else none
    | _ => none
  | .delete, [t, _], [m, k] => match P.underlying t with
    | some (.map kt _) => some (.delete kt m k)
    | _ => none
  | .append, _, _ | .cap, _, _ | .copy, _, _ | .clear, _, _ | .delete, _, _ => none
  | _, _, _ => some (.raw o ty)

/-- An operation, its sizes looked up. -/
def compOp (P : Program) (o : Oper) : Option IOp :=
  if okOs o.op.operands.toList = false then none else
  match o.op with
  | .select .. => none
  | .move x | .assign x => some (.move x)
  | .pick c a b => some (.pick c a b)
  | .alloc t => (zeroT P t).map fun z => .alloc z.cells.toList
  | .box _ x => some (.box x)
  | .build t parts => match zeroT P t, P.underlying t with
    | some z, some (.struct fs) => (placesT P fs.toList).bind fun pl => (partsT (pl[·]?) parts.toList).map fun ps => .build z.cells.toList ps
    | some z, some (.array _ e) => (sizeT P e).bind fun s => (partsT (fun i => some (i * s, s)) parts.toList).map fun ps => .build z.cells.toList ps
    | _, _ => none
  | .buildSlice t len parts => match P.underlying t with
    | some (.slice e) => match sizeT P e, zeroT P e with
      | some s, some z => if 0 < s ∧ len * s ≤ 2 ^ 24 ∧ len < 2 ^ 24 then
          (partsT (fun i => some (i * s, s)) parts.toList).map fun ps => .buildSlice len ((Array.range (len * s)).map (z.cells[· % z.cells.size]!)).toList ps else none
      | _, _ => none
    | _ => none
  | .load t a => match aggT P t, sizeT P t with
    | some true, some n => some (.loadN n a)
    | some false, some _ => some (.load1 a)
    | _, _ => none
  | .store t a x => (sizeT P t).map fun n => .store n a x
  | .nilCheck x => some (.nilCheck x)
  | .binOp op t x y _ => match op with
    | .eql => some (compEq P o.op o.type false t x y)
    | .neq => some (compEq P o.op o.type true t x y)
    | _ => some (.raw o.op o.type)
  | .convert s d x => match P.underlying s, P.underlying d with
    | some .string, some (.slice e) => match P.underlying e, sizeT P e with
      | some (.int .u8), some 1 => some (.strBytes x)
      | _, _ => none
    | some (.slice e), some .string => match P.underlying e with
      | some (.int .u8) => some (.bytesStr x)
      | _ => none
    | _, _ => some (.raw o.op o.type)
  | .makeInterface t x => match P.underlying t with
    | some (.interface _) => none
    | some _ => some (.mkIface t x)
    | none => none
  | .makeFunc (.func f) first captured => some (.mkFunc f first.toList captured.toList)
  | .makeMap _ none => some .mkMap
  | .makeSlice t l c => match P.underlying t with
    | some (.slice e) => match sizeT P e, bytesT P e, zeroT P e with
      | some s, some b, some z => if 0 < s ∧ z.cells.size = s then some (.mkSlice b z.cells.toList l c) else none
      | _, _, _ => none
    | _ => none
  | .slice t x lo hi mx => match P.underlying t with
    | some (.slice e) => (sizeT P e).bind fun s => if 0 < s then some (.sliceSl s x lo hi mx) else none
    | some (.array n e) => (sizeT P e).bind fun s => if 0 < s then some (.sliceArr n s x lo hi mx) else none
    | some .string => some (.raw o.op o.type)
    | _ => none
  | .fieldAddr t x i => match P.underlying t with
    | some (.struct fs) => match fs.toList[i]? with
      | some f => (sizeT P f.type).bind fun s => if s = 0 then none else some (.fieldAddr f.offset x)
      | none => none
    | _ => none
  | .field t x i => match P.underlying t with
    | some (.struct fs) => match fs.toList[i]? with
      | some f => match aggT P f.type, sizeT P f.type with
        | some true, some n => some (.partN f.offset n x)
        | some false, some _ => some (.part1 f.offset x)
        | _, _ => none
      | none => none
    | _ => none
  | .indexAddr t x i => match P.underlying t with
    | some (.slice e) => (sizeT P e).map fun s => .idxSl s x i
    | some (.array n e) => if 1 < n then (sizeT P e).map fun s => .idxArr n s x i else none
    | _ => none
  | .index t x i => match P.underlying t with
    | some .string => some (.raw o.op o.type)
    | some (.array n e) => match aggT P e, sizeT P e with
      | some true, some s => some (.idxAggN n s x i)
      | some false, some 1 => some (.idxAgg1 n x i)
      | _, _ => none
    | _ => none
  | .lookup t m k ok => match P.underlying t with
    | some (.map kt e) => (zeroT P e).map fun z => .lookup kt z ok m k
    | _ => none
  | .mapUpdate t m k v | .insert t m k v => match P.underlying t with
    | some (.map kt _) => some (.mapUpdate kt m k v)
    | _ => none
  | .typeAssert x _ t ok => match P.underlying t with
    | some (.interface _) => none
    | some _ => (zeroT P t).map fun z => .assertT t z ok x
    | none => none
  | .extract x i => some (.extract x i)
  | .call c => match c.callee with
    | .value (.func f) => some (.call f c.args.toList)
    | .value x => some (.callDyn x c.args.toList)
    | .builtin b => compBuiltin P o.op o.type b c.argTypes.toList c.args.toList
    | .invoke _ _ => none
  | _ => some (.raw o.op o.type)

def compGuard (ops : Array Oper) : Option (Nat × Bool) → Option (Option (Nat × Bool))
  | none => some none
  | some (j, want) => match (ops[j]?).bind (·.dst) with
    | some d => some (some (d, want))
    | none => none

def ltO (n : Nat) : Option Nat → Bool
  | some d => decide (d < n)
  | none => true
def ltG (n : Nat) : Option (Nat × Bool) → Bool
  | some (d, _) => decide (d < n)
  | none => true

def compOper (P : Program) (n : Nat) (ops : Array Oper) (o : Oper) : Option IOper :=
  match compOp P o, compGuard ops o.guard with
  | some io, some g => if (ltO n o.dst && ltG n g) = true then some ⟨o.dst, io, g⟩ else none
  | _, _ => none

def compOpers (P : Program) (n : Nat) (ops : Array Oper) : List Oper → Option (List IOper)
  | [] => some []
  | o :: os => match compOper P n ops o, compOpers P n ops os with
    | some x, some xs => some (x :: xs)
    | _, _ => none

/-! ### A region that draws: the order in which it is gone through -/

/-- All that each operation waits for, by chains of edges: a number's bits. -/
def ancL : List Oper → List Nat → List Nat
  | [], acc => acc
  | o :: os, acc => ancL os (acc ++ [o.after.toList.foldl (fun s e => if Region.binds .any e then s ||| 2 ^ e.on ||| acc.getD e.on 0 else s) 0])

def edgesBack : List Oper → Nat → Bool
  | [], _ => true
  | o :: os, i => o.after.toList.all (fun e => !Region.binds .any e || decide (e.on < i)) && edgesBack os (i + 1)

def acts (o : IOper) : Bool := o.op.kind == .ac || o.op.kind == .ca
def seesHeap (o : IOper) : Bool := o.op.looks

/-- The next one: what turns nothing comes first. -/
def nextI (ops : List Oper) (xs : List IOper) (done : List Nat) : Option Nat :=
  let ready := (List.range ops.length).filter fun i => !done.contains i && (match ops[i]? with | some o => o.after.toList.all (fun e => !Region.binds .any e || done.contains e.on) | none => false)
  match ready.find? fun i => (match xs[i]? with | some x => !acts x | none => false) with
  | some i => some i
  | none => ready.head?

def schedI (ops : List Oper) (xs : List IOper) : Nat → List Nat → List Nat
  | 0, done => done
  | k + 1, done => match nextI ops xs done with
    | some i => schedI ops xs k (done ++ [i])
    | none => done

def readsI (ops : Array Oper) (o : Oper) : List Nat := o.looksAt ops

/-- Does i wait for j? -/
def waits (anc : List Nat) (i j : Nat) : Bool := (anc.getD i 0).testBit j

def actsAt (xs : List IOper) (i : Nat) : Bool := match xs[i]? with
  | some x => acts x
  | none => false
def seesAt (xs : List IOper) (i : Nat) : Bool := match xs[i]? with
  | some x => seesHeap x
  | none => false

/-- What stands behind an acting one waits for it; nothing stands ahead of what it waits for. -/
def okOrd (xs : List IOper) (anc : List Nat) : List Nat → List Nat → Bool
  | _, [] => true
  | pre, i :: r => pre.all (fun j => (!actsAt xs j || waits anc i j) && !waits anc j i) && okOrd xs anc (pre ++ [i]) r

/-- Who reads a slot that another one writes waits for it, or (where it doesn't see the heap) is waited for; two write no slot. -/
def okTmp (ops : Array Oper) (xs : List IOper) (anc : List Nat) : Bool :=
  (List.range ops.size).all fun i => (List.range ops.size).all fun j => i == j || match ops[i]?, ops[j]? with
    | some oi, some oj => match oi.dst with
      | some d => (oj.dst != some d) && (!(readsI ops oj).contains d || waits anc j i || (waits anc i j && !seesAt xs j))
      | none => true
    | _, _ => false

/-- Nobody reads what it writes. -/
def okOwn (ops : Array Oper) : Bool :=
  ops.toList.all fun o => match o.dst with
    | some d => !(readsI ops o).contains d
    | none => true

/-- The check of an order. -/
def drawOk (ops : Array Oper) (xs : List IOper) (anc : List Nat) (σ : List Nat) : Bool :=
  edgesBack ops.toList 0 && decide (σ.length = ops.size) && decide (σ.Nodup) && σ.all (fun i => decide (i < ops.size)) && okOrd xs anc [] σ && okTmp ops xs anc && okOwn ops

/-- Which of those that came ahead are looked at anew behind i: what sees the heap, and i does not wait for it. -/
def againI (xs : List IOper) (anc : List Nat) (ahead : List Nat) (i : Nat) : List IOper :=
  match xs[i]? with
  | some x => if acts x then ahead.filterMap fun j => match xs[j]? with
      | some y => if seesHeap y && !waits anc i j then some y else none
      | none => none
    else []
  | none => []

def layI (xs : List IOper) (anc : List Nat) : List Nat → List Nat → List (IOper × List IOper)
  | _, [] => []
  | ahead, i :: r => match xs[i]? with
    | some x => (x, againI xs anc ahead i) :: layI xs anc (ahead ++ [i]) r
    | none => []

def compDraw (P : Program) (n : Nat) (ops : Array Oper) : Option (List (IOper × List IOper)) :=
  match compOpers P n ops ops.toList with
  | some xs =>
    let anc := ancL ops.toList []
    let σ := schedI ops.toList xs ops.size []
    if drawOk ops xs anc σ then some (layI xs anc [] σ) else none
  | none => none

def comp (P : Program) (n : Nat) : Code → Option ICode
  | .skip => some .skip
  | .region _ ops false => (compOpers P n ops ops.toList).map .ops
  | .region _ ops true => (compDraw P n ops).map .draw
  | .seq a b => match comp P n a, comp P n b with
    | some x, some y => some (.seq x y)
    | _, _ => none
  | .cond c a b => if okO c then match comp P n a, comp P n b with
      | some x, some y => some (.cond c x y)
      | _, _ => none
    else none
  | .block id a => (comp P n a).map (.block id)
  | .loop a => (comp P n a).map .loop
  | .exit id => some (.exit id)
  | .ret => some .ret
  | _ => none

def compRes (P : Program) : List ResultVar → Option (List IRes)
  | [] => some []
  | .tmp t :: r => (compRes P r).map (.tmp t :: ·)
  | .cell a t :: r => match aggT P t, sizeT P t with
    | some true, some n => (compRes P r).map (.cellN a n :: ·)
    | some false, some _ => (compRes P r).map (.cell1 a :: ·)
    | _, _ => none

def compFunc (P : Program) (f : FuncId) : Option IFunc :=
  match P.funcs[f]? with
  | some fn => match fn.body, (fn.name == "runtime.NumGoroutine") with
    | some c, false => match comp P fn.ntmps c, compRes P fn.results.toList with
      | some b, some r => some ⟨fn.ntmps, r, b⟩
      | _, _ => none
    | _, _ => none
  | none => none

end Go.Proofs.YtpklgklmjhblpaaI
