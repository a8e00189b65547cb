/- A layer of this session's own between the model and the proofs: an intermediate form of the code (sizes and zero values resolved), and what it does over a heap of ids, in which no order, no capacity and no block number is drawn. Definitions alone. / The intermediate form's making: a function that th -/
import Derived.Orders
import Derived.Tactics
namespace Go.Proofs.YtpbbjfighohokaaGreatI
open Go
set_option linter.unusedSimpArgs false
set_option linter.unusedVariables false
def dY:Nat:=9223372036854775808
inductive fK where
 |cells (cs:List Value) (ro:Bool)
 |map (es:List MapEntry) (clock:Nat)
 |iter (m:Option Nat) (since:Nat) (seen:List Nat) (last:Nat)
 |dead
 deriving Inhabited
def cO:Value→Bool
 | .agg _| .tuple _=>false
 |_=>true
structure aa where
 get:Nat→Option fK
 next:Nat
def aa.set (H:aa)(i:Nat)(o:fK):aa:={H with get:=fun j=>if j=i then some o else H.get j}
def aa.alloc (H:aa)(o:fK):aa:={get:=fun j=>if j=H.next then some o else H.get j,next:=H.next+1}
def aa.aP (H:aa)(b o n:Nat):Option (List Value):=
 match H.get b with
 |some (.cells cs _)=>if o+n≤cs.length then some ((cs.drop o).take n)else none
 |_=>none
def aa.ah (H:aa)(b o:Nat):Option Value:=
 match H.get b with
 |some (.cells cs _)=>cs[o]?
 |_=>none
def putAt (cs:List Value)(o:Nat)(vs:List Value):List Value:=cs.take o++vs++cs.drop (o+vs.length)
def aa.aK (H:aa)(b o:Nat)(vs:List Value):Option aa:=
 match H.get b with
 |some (.cells cs false)=>if o+vs.length≤cs.length∧vs.all cO=true then some (H.set b (.cells (putAt cs o vs) false))else none
 |_=>none
abbrev Env:=Nat→Value
def Env.put (T:Env)(d:Option Nat)(v:Value):Env:=
 match d with
 |some d=>fun t=>if t=d then v else T t
 |none=>T
def ev (T:Env):Operand→Value
 | .tmp t=>T t
 | .const v=>v
 | .global g=>.pointer (some ⟨g,0,none⟩)
 | .func f=>.func (.func f) #[] #[]
def aB {α:Type}(P:Program):Sem α→Option α
 | .pure a=>some a
 | .program k=>aB P (k P)
 | .mark _ k=>aB P k
 |_=>none
def qQ:Value→Bool
 | .bool _| .int _ _| .float _ _| .complex _ _ _| .string _=>true
 |_=>false
def lV:Value→Bool
 | .agg cs=>cs.toList.all qQ
 |v=>qQ v
inductive KS where
 |b
 |i (k:IntKind)
 |s
 deriving DecidableEq
inductive bZ where
 |raw (o:Op) (ty:TypeId)
 |move (x:Operand)
 |pick (c a b:Operand)
 |alloc (cells:List Value)
 |box (x:Operand)
 |build (zero:List Value) (parts:List ((Nat×Nat)×Operand))
 |buildSlice (len:Nat) (zero:List Value) (parts:List ((Nat×Nat)×Operand))
 |ah (a:Operand)
 |ak (n:Nat) (a:Operand)
 |store (n:Nat) (a x:Operand)
 |nilCheck (x:Operand)
 |fC (kd:Nat) (neg:Bool) (x:Operand)
 |p9 (t:TypeId) (x:Operand)
 |Kz (f:FuncId) (first captured:List Operand)
 |mkMap
 |mkSlice (bytes:Nat) (zero:List Value) (l c:Operand)
 |KA (x:Operand)
 |yX (x:Operand)
 |dn (size:Nat) (x:Operand) (lo hi mx:Option Operand)
 |yY (n size:Nat) (x:Operand) (lo hi mx:Option Operand)
 |fieldAddr (off:Nat) (x:Operand)
 |Ti (off:Nat) (x:Operand)
 |Vo (off n:Nat) (x:Operand)
 |bg (size:Nat) (x i:Operand)
 |yZ (len size:Nat) (x i:Operand)
 |Kj (len:Nat) (x i:Operand)
 |NM (len size:Nat) (x i:Operand)
 |bR (x:Operand)
 |Tj (x:Operand)
 |KC (x:Operand)
 |extract (x:Operand) (i:Nat)
 |qW (t:TypeId) (zero:Value) (ok:Bool) (x:Operand)
 |lookup (kt:TypeId) (zero:Value) (ok:Bool) (m k:Operand)
 |mapUpdate (kt:TypeId) (m k v:Operand)
 |delete (kt:TypeId) (m k:Operand)
 |Ew (zero:List Value) (x:Operand)
 |copy (size:Nat) (d s:Operand)
 |append (size bytes:Nat) (s x:Operand)
 |Av (s x:Operand)
 |Ex (bytes:Nat) (zero:List Value) (s n:Operand)
 |call (f:FuncId) (args:List Operand)
 |nO (f:Operand) (args:List Operand)
 |bin (op:BinOp) (x y:Operand)
 |eqv (neg:Bool) (sh:List KS) (x y:Operand)
 |un (op:UnOp) (x:Operand)
 |conv (k:IntKind) (x:Operand)
 |pI (x:Operand)
 |PK (mx:Bool) (x y:Operand)
 |NN (x i:Operand)
 |PL (x:Operand) (lo hi:Option Operand)
 |rangeMap (x:Operand)
 |wQ (x:Operand)
 |rP (x:Operand)
 |never
 deriving Inhabited
structure aN where
 dst:Option Nat
 op:bZ
 guard:Option (Nat×Bool)
 deriving Inhabited
inductive qR where
 |skip
 |ops (l:List aN)
 |draw (l:List (aN×List aN))
 |seq (a b:qR)
 |cond (c:Operand) (a b:qR)
 |block (id:Nat) (a:qR)
 |loop (a:qR)
 |exit (id:Nat)
 |ret
 deriving Inhabited
def NP (l:List UInt8):Value:=.string ⟨l.toArray⟩
def wR (op:BinOp)(k:IntKind)(a b:Int):Option Value:=
 match op with
 | .add=>some (.int k (k.wrap (a+b)))
 | .sub=>some (.int k (k.wrap (a-b)))
 | .mul=>some (.int k (k.wrap (a*b)))
 | .quo=>if b=0 then none else some (.int k (k.wrap (a.tdiv b)))
 | .rem=>if b=0 then none else some (.int k (a.tmod b))
 | .and=>some (.int k (k.wrap (BitVec.ofInt k.bits a &&& BitVec.ofInt k.bits b).toNat))
 | .or=>some (.int k (k.wrap (BitVec.ofInt k.bits a ||| BitVec.ofInt k.bits b).toNat))
 | .xor=>some (.int k (k.wrap (BitVec.ofInt k.bits a ^^^ BitVec.ofInt k.bits b).toNat))
 | .andNot=>some (.int k (k.wrap (BitVec.ofInt k.bits a &&& ~~~ BitVec.ofInt k.bits b).toNat))
 | .eql=>some (.bool (decide (a=b)))
 | .neq=>some (.bool (decide (a≠b)))
 | .lss=>some (.bool (decide (a<b)))
 | .leq=>some (.bool (decide (a≤b)))
 | .gtr=>some (.bool (decide (b<a)))
 | .geq=>some (.bool (decide (b≤a)))
 |_=>none
def Vp (op:BinOp)(k:IntKind)(a b:Int):Option Value:=
 if b<0 then none
 else match op with
  | .shl=>some (.int k (k.wrap (a*2 ^ min b.toNat k.bits)))
  | .shr=>some (.int k (a.fdiv (2 ^ min b.toNat k.bits)))
  |_=>none
def str2 (op:BinOp)(a b:List UInt8):Option Value:=
 match op with
 | .add=>if ((a.length+b.length:Nat):Int)>IntKind.i64.max then none else some (NP (a++b))
 | .eql=>some (.bool (decide (a=b)))
 | .neq=>some (.bool (decide (a≠b)))
 | .lss=>some (.bool (Op.bytesLess a b))
 | .leq=>some (.bool (Op.bytesLess a b||decide (a=b)))
 | .gtr=>some (.bool (!(Op.bytesLess a b||decide (a=b))))
 | .geq=>some (.bool (!Op.bytesLess a b))
 |_=>none
def eO (op:BinOp)(x y:Value):Option Value:=
 match x,y with
 | .int k a,.int k' b=>match op with
   | .shl| .shr=>Vp op k a b
   |_=>if k=k' then wR op k a b else none
 | .string a,.string b=>str2 op a.data.toList b.data.toList
 |_,_=>none
def nP (op:UnOp)(x:Value):Option Value:=
 match op,x with
 | .not,.bool b=>some (.bool !b)
 | .neg,.int k n=>some (.int k (k.wrap (0-n)))
 | .xor,.int k n=>wR .xor k (if k.signed then -1 else k.max) n
 |_,_=>none
def bK:List KS→List Value→Bool
 |[],[]=>true
 | .b::sh,.bool _::l=>bK sh l
 | .i k::sh,.int k' _::l=>decide (k=k')&&bK sh l
 | .s::sh,.string _::l=>bK sh l
 |_,_=>false
def nG:Value→Value→Bool
 | .bool a,.bool b=>a == b
 | .int _ a,.int _ b=>decide (a=b)
 | .string a,.string b=>decide (a=b)
 |_,_=>false
def jR:List Value→List Value→Bool
 |[],[]=>true
 |a::x,b::y=>nG a b&&jR x y
 |_,_=>false
def bu (cs:List Value):List ((Nat×Nat)×Value)→Option (List Value)
 |[]=>some cs
 |((off,size),v)::r=>if v.cells.size=size∧off+v.cells.size≤cs.length then bu (putAt cs off v.cells.toList) r else none
def pJ:List Value→Option (List UInt8)
 |[]=>some []
 | .int .u8 n::r=>(pJ r).map (UInt8.ofNat n.toNat :: ·)
 |_=>none
def aT:Nat→Value→Option Bool
 |0,.pointer a=>some a.isNone
 |1,.slice a _ _=>some a.isNone
 |2,.map r=>some r.isNone
 |3,.func .. =>some false
 |3,.nilFunc=>some true
 |4,.iface .. =>some false
 |4,.nilIface=>some true
 |_,_=>none
def nL (T:Env)(x:Operand):Option Nat:=
 match ev T x with
 | .int _ i=>if 0≤i then some i.toNat else none
 |_=>none
def eU (T:Env)(len:Nat)(lo hi mx:Option Operand):Option (Nat×Nat×Option Nat):=
 match (match mx with|some v=>(nL T v).map some|none=>some none),(match hi with|some v=>nL T v|none=>if mx.isSome then none else some len),(match lo with|some v=>nL T v|none=>some 0)with
 |some m,some h,some l=>if l≤h∧h≤m.getD h then some (l,h,m)else none
 |_,_,_=>none
def y5 (H:aa)(b k:Nat):Bool:=
 match H.get b with
 |some (.cells cs _)=>decide (k≤cs.length)
 |_=>false
def cZ (H:aa)(size:Nat)(a:Option Addr)(len cap l h:Nat)(m:Option Nat):Option Value:=
 if cap<dY then
  if h≤m.getD cap∧m.getD cap≤cap then some (.slice (if m.getD cap=l then a else a.map (·.add (l*size))) (h-l) (m.getD cap-l))else none
 else match a with
  |some ⟨b,o,none⟩=>
   if cap=dY+size∧0<size∧(m.getD h≤len∨y5 H b (o+m.getD h*size)=true)then
    match m with
    |none=>some (.slice (some ⟨b,o+l*size,none⟩) (h-l) cap)
    |some x=>if x<dY then some (.slice (some (if x=l then ⟨b,o,none⟩else ⟨b,o+l*size,none⟩)) (h-l) (x-l))else none
   else none
  |_=>none
def qU (P:Program)(kt:TypeId)(k:Value):List MapEntry→Nat→Option (Option Nat)
 |[],_=>some none
 |e::es,i=>
  match aB P (Op.equal kt k e.key)with
  |some true=>some (some i)
  |some false=>qU P kt k es (i+1)
  |none=>none
def CW (P:Program)(kt:TypeId)(k:Value)(es:List MapEntry):Bool:=
 lV k&&es.all (fun e=>lV e.key)&&(aB P (Instr.checkKey es.isEmpty 10000 kt k)).isSome&&(aB P (Instr.checkKey false 10000 kt k)).isSome
def qj (H:aa):Value→Option (List MapEntry)
 | .map none=>some []
 | .map (some r)=>match H.get r with
   |some (.map es _)=>some es
   |_=>none
 |_=>none
def bL (P:Program)(T:Env)(H:aa):bZ→Option Value
 | .raw o ty=>
   if o.operands.toList.all (fun x=>lV (ev T x))=true then
    match aB P (execOp (ev T) ⟨none,o,ty, "",#[],none⟩)with
    |some (.value v)=>if lV v=true then some v else none
    |_=>none
   else none
 | .move x=>some (ev T x)
 | .pick c a b=>match ev T c with
   | .bool t=>some (bif t then ev T a else ev T b)
   |_=>none
 | .build zero parts=>(bu zero (parts.map fun p=>(p.1,ev T p.2))).map fun l=>.agg l.toArray
 | .nilCheck x=>match ev T x with
   | .pointer (some a)=>some (.pointer (some a))
   | .iface t v=>some (.iface t v)
   | .func (.func f) a b=>some (.func (.func f) a b)
   |_=>none
 | .fC kd neg x=>(aT kd (ev T x)).map fun b=>.bool (b != neg)
 | .p9 t x=>some (.iface t (ev T x))
 | .Kz f first captured=>some (.func (.func f) (first.map (ev T)).toArray (captured.map (ev T)).toArray)
 | .fieldAddr off x=>match ev T x with
   | .pointer (some ⟨b,o,none⟩)=>some (.pointer (some ⟨b,o+off,none⟩))
   |_=>none
 | .Ti off x=>match ev T x with
   | .agg cs=>cs.toList[off]?
   |_=>none
 | .Vo off n x=>match ev T x with
   | .agg cs=>if off+n≤cs.toList.length then some (.agg ((cs.toList.drop off).take n).toArray)else none
   |_=>none
 | .bg size x i=>match ev T x,ev T i with
   | .slice (some ⟨b,o,none⟩) len _,.int _ i=>if 0≤i∧i<(len:Int)then some (.pointer (some ⟨b,o+i.toNat*size,none⟩))else none
   |_,_=>none
 | .yZ len size x i=>match ev T x,ev T i with
   | .pointer (some ⟨b,o,none⟩),.int _ i=>if 0≤i∧i<(len:Int)then some (.pointer (some ⟨b,o+i.toNat*size,none⟩))else none
   |_,_=>none
 | .Kj len x i=>match ev T x,ev T i with
   | .agg cs,.int _ i=>if 0≤i∧i<(len:Int)then cs.toList[i.toNat]? else none
   |_,_=>none
 | .NM len size x i=>match ev T x,ev T i with
   | .agg cs,.int _ i=>if 0≤i∧i<(len:Int)∧i.toNat*size+size≤cs.toList.length then some (.agg ((cs.toList.drop (i.toNat*size)).take size).toArray)else none
   |_,_=>none
 | .bR x=>match ev T x with
   | .slice _ len _=>some (.int .i64 len)
   |_=>none
 | .Tj x=>match ev T x with
   | .slice _ _ c=>if c<dY then some (.int .i64 c)else none
   |_=>none
 | .extract x i=>match ev T x with
   | .tuple vs=>vs.toList[i]?
   |_=>none
 | .qW t zero ok x=>match ev T x with
   | .iface t' v=>if t'=t then some (if ok then .tuple #[v,.bool true]else v)else if ok then some (.tuple #[zero,.bool false])else none
   | .nilIface=>if ok then some (.tuple #[zero,.bool false])else none
   |_=>none
 | .dn size x lo hi mx=>match ev T x with
   | .slice a len cap=>match eU T len lo hi mx with
     |some (l,h,m)=>cZ H size a len cap l h m
     |none=>none
   |_=>none
 | .yY n size x lo hi mx=>match ev T x with
   | .pointer (some ⟨b,o,none⟩)=>match eU T n lo hi mx with
     |some (l,h,m)=>if n<dY then cZ H size (some ⟨b,o,none⟩) n n l h m else none
     |none=>none
   |_=>none
 | .ah a=>match ev T a with
   | .pointer (some ⟨b,o,none⟩)=>H.ah b o
   |_=>none
 | .ak n a=>match ev T a with
   | .pointer (some ⟨b,o,none⟩)=>(H.aP b o n).map fun l=>.agg l.toArray
   |_=>none
 | .yX x=>match ev T x with
   | .slice none _ _=>some (.string .empty)
   | .slice (some ⟨b,o,none⟩) len _=>((H.aP b o len).bind pJ).map fun l=>.string ⟨l.toArray⟩
   |_=>none
 | .KC x=>match ev T x with
   | .map none=>some (.int .i64 0)
   | .map (some r)=>match H.get r with
     |some (.map es _)=>some (.int .i64 es.length)
     |_=>none
   |_=>none
 | .lookup kt zero ok m k=>
   match qj H (ev T m)with
   |some es=>
    if CW P kt (ev T k) es=true then
     match qU P kt (ev T k) es 0 with
     |some (some i)=>match es[i]? with
      |some e=>some (if ok then .tuple #[e.val,.bool true]else e.val)
      |none=>none
     |some none=>some (if ok then .tuple #[zero,.bool false]else zero)
     |none=>none
    else none
   |none=>none
 | .bin op x y=>eO op (ev T x) (ev T y)
 | .eqv neg sh x y=>match ev T x,ev T y with
   | .agg a,.agg b=>if sh≠[]∧bK sh a.toList=true∧bK sh b.toList=true then some (.bool (jR a.toList b.toList != neg))else none
   | .bool a,.bool b=>if sh=[]then some (.bool ((a == b) != neg))else none
   |_,_=>none
 | .un op x=>nP op (ev T x)
 | .conv k x=>match ev T x with
   | .int _ n=>some (.int k (k.wrap n))
   |_=>none
 | .pI x=>match ev T x with
   | .string s=>some (.int .i64 s.data.toList.length)
   |_=>none
 | .PK mx x y=>match ev T x,ev T y with
   | .int k a,.int _ b=>some (.int k (if mx then (if b>a then b else a)else (if b<a then b else a)))
   |_,_=>none
 | .NN x i=>match ev T x,ev T i with
   | .string s,.int _ i=>if 0≤i then (s.data.toList[i.toNat]?).map fun b=>.int .u8 b.toNat else none
   |_,_=>none
 | .PL x lo hi=>match ev T x with
   | .string s=>match eU T s.data.toList.length lo hi none with
     |some (l,h,_)=>if h≤s.data.toList.length then some (NP ((s.data.toList.drop l).take (h-l)))else none
     |none=>none
   |_=>none
 | .never=>none
 |_=>none
def jq (T:Env):bZ→Option (fK×(Nat→Value))
 | .alloc cells=>some (.cells cells false,fun r=>.pointer (some ⟨r,0,none⟩))
 | .box x=>some (.cells (ev T x).cells.toList false,fun r=>.pointer (some ⟨r,0,none⟩))
 | .buildSlice len zero parts=>(bu zero (parts.map fun p=>(p.1,ev T p.2))).map fun l=>(.cells l false,fun r=>.slice (some ⟨r,0,none⟩) len len)
 | .mkMap=>some (.map [] 0,fun r=>.map (some r))
 | .mkSlice bytes zero l c=>match ev T l,ev T c with
   | .int _ l,.int _ c=>
     if 0≤l∧l≤c∧c≤17592186044416∧c*bytes≤17592186044416 then
      some (.cells ((Array.range (c.toNat*zero.length)).map (zero.toArray[· % zero.toArray.size]!)).toList false,fun r=>.slice (some ⟨r,0,none⟩) l.toNat c.toNat)
     else none
   |_,_=>none
 |_=>none
def aZ (H:aa)(size n:Nat):Value→Option (List Value)
 | .slice none _ _=>some []
 | .slice (some ⟨b,o,none⟩) _ _=>if n*size=0 then some []else H.aP b o (n*size)
 |_=>none
def aY (H:aa)(size bytes:Nat)(s:Value)(n:Nat)(news:List Value):Option (Value×aa):=
 match s with
 | .slice a len cap=>
   if (len+n)*bytes≤140737488355328∧len+n≤140737488355328∧0<bytes∧0<size∧news.length=n*size then
    if n=0 then (if len≤cap then some (.slice a len cap,H)else none)
    else match a with
     |none=>if len=0∧cap=0 then some (.slice (some ⟨H.next,0,none⟩) n (dY+size),H.alloc (.cells news false))else none
     |some ⟨b,o,none⟩=>
      if cap<dY∧len+n≤cap then
       (H.aK b (o+len*size) news).map fun H'=>(.slice (some ⟨b,o,none⟩) (len+n) cap,H')
      else match aZ H size len s with
       |some old=>
        if cap<dY then
         some (.slice (some ⟨H.next,0,none⟩) (len+n) (dY+size),H.alloc (.cells (old++news) false))
        else if cap=dY+size then
         match H.get b with
         |some (.cells cs false)=>
          if news.all cO=true then
           if o+(len+n)*size≤cs.length then
            some (.slice (some ⟨b,o,none⟩) (len+n) cap,H.set b (.cells (putAt cs (o+len*size) news) false))
           else if o≤cs.length then
            some (.slice (some ⟨H.next,0,none⟩) (len+n) (dY+size),(H.set b .dead).alloc (.cells (old++news) false))
           else none
          else none
         |_=>none
        else none
       |none=>none
     |_=>none
   else none
 |_=>none
def bG:Value→Option Nat
 | .slice _ n _=>some n
 |_=>none
def kZ (P:Program)(T:Env)(H:aa):bZ→Option (Value×aa)
 | .store n a x=>match ev T a with
   | .pointer (some ⟨b,o,none⟩)=>if (ev T x).cells.toList.length=n then (H.aK b o (ev T x).cells.toList).map fun H'=>(undef,H')else none
   |_=>none
 | .append size bytes s x=>match bG (ev T x)with
   |some n=>(aZ H size n (ev T x)).bind fun news=>aY H size bytes (ev T s) n news
   |none=>none
 | .Av s x=>match ev T x with
   | .string t=>aY H 1 1 (ev T s) t.size (t.data.toList.map fun b=>.int .u8 b.toNat)
   |_=>none
 | .Ex bytes zero s n=>match ev T n with
   | .int _ k=>if 0≤k∧k*bytes≤17592186044416∧k≤17592186044416 then aY H zero.length bytes (ev T s) k.toNat (Builtin.zeroCells zero.toArray k.toNat).toList else none
   |_=>none
 | .copy size d s=>match ev T d,bG (ev T s)with
   | .slice a dl _,some sl=>
     (aZ H size (Nat.min sl dl) (ev T s)).bind fun cs=>
       if cs.length=0 then some (.int .i64 (Nat.min sl dl),H)else
       match a with
       |some ⟨b,o,none⟩=>(H.aK b o cs).map fun H'=>(.int .i64 (Nat.min sl dl),H')
       |_=>none
   |_,_=>none
 | .Ew zero x=>match ev T x with
   | .slice none _ _=>some (.tuple #[],H)
   | .slice (some ⟨b,o,none⟩) n _=>
     if n=0 then some (.tuple #[],H)else (H.aK b o (Builtin.zeroCells zero.toArray n).toList).map fun H'=>(.tuple #[],H')
   |_=>none
 | .mapUpdate kt m k v=>match ev T m with
   | .map (some r)=>match H.get r with
     |some (.map es clock)=>
      if CW P kt (ev T k) es=true then
       match qU P kt (ev T k) es 0 with
       |some (some i)=>
        if Instr.sameBits 10000 (((es[i]?).map (·.key)).getD (ev T k)) (ev T k)=true then
         some (undef,H.set r (.map (es.modify i fun e=>{e with key:=ev T k,val:=ev T v}) clock))else none
       |some none=>some (undef,H.set r (.map (es++[{key:=ev T k,val:=ev T v,born:=clock}]) (clock+1)))
       |none=>none
      else none
     |_=>none
   |_=>none
 | .delete kt m k=>match ev T m with
   | .map (some r)=>match H.get r with
     |some (.map es clock)=>
      if CW P kt (ev T k) es=true then
       match qU P kt (ev T k) es 0 with
       |some (some i)=>some (.tuple #[],H.set r (.map (es.eraseIdx i) clock))
       |some none=>some (.tuple #[],H.set r (.map es clock))
       |none=>none
      else none
     |_=>none
   |_=>none
 |_=>none
inductive Vq where
 |rd|al|ac|ca
 deriving DecidableEq
def bZ.kind:bZ→Vq
 | .alloc _| .box _| .buildSlice .. | .KA _| .mkMap| .mkSlice .. =>.al
 | .store .. | .append .. | .Av .. | .Ex .. | .copy .. | .Ew .. | .mapUpdate .. | .delete .. =>.ac
 | .call .. | .nO .. | .rangeMap _| .wQ _| .rP _=>.ca
 |_=>.rd
def bZ.looks:bZ→Bool
 | .ah _| .ak .. | .yX _| .KC _| .lookup .. | .dn .. =>true
 |_=>false
def wS (H:aa)(K:Value→aa→Prop):Value→Prop
 | .map none=>K (.pointer (some ⟨H.next,0,none⟩)) (H.alloc (.iter none 0 [] 0))
 | .map (some r)=>match H.get r with
   |some (.map _ clock)=>K (.pointer (some ⟨H.next,0,none⟩)) (H.alloc (.iter (some r) clock [] clock))
   |_=>False
 |_=>False
def rQ (H:aa)(K:Value→aa→Prop):Value→Prop
 | .pointer (some ⟨r,0,none⟩)=>match H.get r with
   |some (.iter none _ _ _)=>K (.tuple #[.bool false]) H
   |some (.iter (some m) since seen last)=>match H.get m with
    |some (.map es clock)=>(seen=[]∨es=[]∨∃e ∈ es,e.born<last)∧((∀e ∈ es,e.born ∉ seen→since≤e.born)→K (.tuple #[.bool false]) H) ∧
      ∀e ∈ es,e.born ∉ seen→K (.tuple #[.bool true,e.key,e.val]) (H.set r (.iter (some m) since (seen++[e.born]) clock))
    |_=>False
   |_=>False
 |_=>False
def uu (H:aa)(K:Value→aa→Prop):Value→Prop
 | .pointer (some ⟨r,0,none⟩)=>match H.get r with
   |some (.iter (some m) _ seen last)=>match H.get m with
    |some (.map es clock)=>clock=last∧∃pre s,seen=pre++[s]∧∃e,es.find? (fun e=>e.born == s)=some e∧K (.tuple #[e.key,e.val]) H
    |_=>False
   |_=>False
 |_=>False
abbrev bS:=FuncId→List Value→aa→(Value→aa→Prop)→Prop
def rR (C:bS)(T:Env)(H:aa)(K:Value→aa→Prop):bZ→Prop
 | .call f args=>C f (args.map (ev T)) H K
 | .nO f args=>match ev T f with
   | .func (.func g) first captured=>C g (first.toList++args.map (ev T)++captured.toList) H K
   |_=>False
 | .rangeMap x=>wS H K (ev T x)
 | .wQ x=>rQ H K (ev T x)
 | .rP x=>uu H K (ev T x)
 |_=>False
def NQ (P:Program)(C:bS)(T:Env)(H:aa)(o:bZ)(K:Value→aa→Prop):Prop:=
 match o.kind with
 | .rd=> ∃v,bL P T H o=some v∧K v H
 | .al=> ∃r,jq T o=some r∧K (r.2 H.next) (H.alloc r.1)
 | .ac=> ∃r,kZ P T H o=some r∧K r.1 r.2
 | .ca=>rR C T H K o
def dI (T:Env):Option (Nat×Bool)→Bool
 |none=>true
 |some (d,want)=>match T d with
  | .bool b=>b == want
  |_=>false
def fe (P:Program)(C:bS):List aN→(Env→aa→Prop)→Env→aa→Prop
 |[],K,T,H=>K T H
 |o::os,K,T,H=>
  match dI T o.guard with
  |true=>NQ P C T H o.op fun v H'=>fe P C os K (T.put o.dst v) H'
  |false=>fe P C os K (T.put o.dst undef) H
def aQ (P:Program)(T:Env)(H:aa)(o:aN):Prop:=
 match dI T o.guard,o.dst with
 |true,some d=>bL P T H o.op=some (T d)
 |true,none=>(bL P T H o.op).isSome
 |false,_=>True
def dx (P:Program)(T:Env)(H:aa):List aN→Prop
 |[]=>True
 |[o]=>aQ P T H o
 |o::os=>aQ P T H o∧dx P T H os
def bM (P:Program)(C:bS):List (aN×List aN)→(Env→aa→Prop)→Env→aa→Prop
 |[],K,T,H=>K T H
 |(o,st)::os,K,T,H=>
  match dI T o.guard with
  |true=>NQ P C T H o.op fun v H'=>
    match st with
    |[]=>bM P C os K (T.put o.dst v) H'
    |_=>dx P (T.put o.dst v) H' st∧bM P C os K (T.put o.dst v) H'
  |false=>bM P C os K (T.put o.dst undef) H
def KD (N:Env→aa→Prop)(Q:Exit→Env→aa→Prop):Exit→Env→aa→Prop
 | .normal,T,H=>N T H
 |e,T,H=>Q e T H
def Dk (id:Nat)(Q:Exit→Env→aa→Prop):Exit→Env→aa→Prop
 | .exit id',T,H=>if id'=id then Q .normal T H else Q (.exit id') T H
 |e,T,H=>Q e T H
def qa4 (B:(Exit→Env→aa→Prop)→Env→aa→Prop)(Q:Exit→Env→aa→Prop)(T:Env)(H:aa):Prop:=
 ∀X:Env→aa→Prop,(∀T H,B (KD X Q) T H→X T H)→X T H
def AQ (P:Program)(C:bS):qR→(Exit→Env→aa→Prop)→Env→aa→Prop
 | .skip,Q,T,H=>Q .normal T H
 | .ops l,Q,T,H=>fe P C l (Q .normal) T H
 | .draw l,Q,T,H=>bM P C l (Q .normal) T H
 | .seq a b,Q,T,H=>AQ P C a (KD (AQ P C b Q) Q) T H
 | .cond c a b,Q,T,H=>match ev T c with
   | .bool true=>AQ P C a Q T H
   | .bool false=>AQ P C b Q T H
   |_=>False
 | .block id a,Q,T,H=>AQ P C a (Dk id Q) T H
 | .loop a,Q,T,H=>qa4 (AQ P C a) Q T H
 | .exit id,Q,T,H=>Q (.exit id) T H
 | .ret,Q,T,H=>Q .ret T H
inductive II where
 |tmp (t:Nat)
 |cell1 (a:Nat)
 |dD (a n:Nat)
 deriving Inhabited
structure aA where
 ntmps:Nat
 results:List II
 body:qR
 deriving Inhabited
def bE (T:Env)(H:aa):II→Option Value
 | .tmp t=>some (T t)
 | .cell1 a=>match T a with
   | .pointer (some ⟨b,o,none⟩)=>H.ah b o
   |_=>none
 | .dD a n=>match T a with
   | .pointer (some ⟨b,o,none⟩)=>(H.aP b o n).map fun l=>.agg l.toArray
   |_=>none
def bA (T:Env)(H:aa):List II→Option (List Value)
 |[]=>some []
 |r::rs=>match bE T H r with
  |some v=>(bA T H rs).map (v :: ·)
  |none=>none
def dZ (T:Env)(H:aa)(rs:List II):Option Value:=
 match bA T H rs with
 |some [v]=>some v
 |some l=>some (.tuple l.toArray)
 |none=>none
def Tk (args:List Value):Env:=fun t=>args.getD t undef
def Tm (g:aA)(K:Value→aa→Prop):Exit→Env→aa→Prop
 | .ret,T,H| .normal,T,H=> ∃r,dZ T H g.results=some r∧K r H
 |_,_,_=>False
def Ii (P:Program)(C:bS)(g:aA)(args:List Value)(H:aa)(K:Value→aa→Prop):Prop:=
 args.length≤g.ntmps∧AQ P C g.body (Tm g K) (Tk args) H
def jr (P:Program)(IP:FuncId→Option aA)(X:bS)(f:FuncId)(args:List Value)(H:aa)(K:Value→aa→Prop):Prop:=
 ∀Y:bS,(∀f args H K,(X f args H K∨∃g,IP f=some g∧Ii P Y g args H K)→Y f args H K)→Y f args H K
def wT:Value→Bool
 | .pointer none| .map none| .nilFunc| .nilIface=>true
 | .slice none 0 0=>true
 | .tuple vs=>vs.toList.isEmpty
 |v=>qQ v
def qX:Value→Bool
 | .agg cs=>cs.toList.all wT
 |v=>wT v
def okO:Operand→Bool
 | .tmp _=>true
 | .const v=>qX v
 | .global _=>false
 | .func _=>true
def uw (l:List Operand):Bool:=l.all okO
def qH (P:Program)(t:TypeId):Option Bool:=
 match P.underlying t with
 |some (.struct _)|some (.array _ _)=>some true
 |some _=>some false
 |none=>none
def bq (P:Program)(t:TypeId):Option Nat:=(P.info? t).map (·.size)
def y7 (P:Program)(t:TypeId):Option Nat:=(P.info? t).map (·.bytes)
def fU (P:Program)(t:TypeId):Option Value:=((P.info? t).bind (·.zero)).bind fun z=>if qX z then some z else none
def nR (P:Program):List Field→Option (List (Nat×Nat))
 |[]=>some []
 |f::fs=>do let s ←bq P f.type;let r ←nR P fs;pure ((f.offset,s)::r)
def fq (place:Nat→Option (Nat×Nat)):List (Nat×Operand)→Option (List ((Nat×Nat)×Operand))
 |[]=>some []
 |(i,x)::r=>do let p ←place i;let r ←fq place r;pure ((p,x)::r)
def Ey:TypeDesc→Value→Option Nat
 | .pointer _,.pointer none=>some 0
 | .slice _,.slice none 0 0=>some 1
 | .map _ _,.map none=>some 2
 | .func _ _ _,.nilFunc=>some 3
 | .interface _,.nilIface=>some 4
 |_,_=>none
def wU (P:Program)(o:Op)(ty:TypeId)(neg:Bool)(t:TypeId)(x y:Operand):bZ:=
 match P.underlying t,x,y with
 |some d,x,.const v=>match Ey d v with
  |some k=>.fC k neg x
  |none=>.raw o ty
 |_,_,_=>.raw o ty
def jv (P:Program)(o:Op)(ty:TypeId)(b:Builtin)(tys:List TypeId)(args:List Operand):Option bZ:=
 match b,tys,args with
 | .len,[t],[x]=>match P.underlying t with
   |some (.slice _)=>some (.bR x)
   |some (.map _ _)=>some (.KC x)
   |some (.array n _)=>some (.move (.const (.int .i64 n)))
   |some (.pointer a)=>match P.underlying a with
    |some (.array n _)=>some (.move (.const (.int .i64 n)))
    |_=>none
   |_=>some (.raw o ty)
 | .cap,[t],[x]=>match P.underlying t with
   |some (.slice _)=>some (.Tj x)
   |_=>none
 | .append,[t,u],[s,x]=>match P.underlying t with
   |some (.slice e)=>match P.underlying u,bq P e,y7 P e,fU P e with
    |some (.slice _),some size,some bytes,some z=>if z.cells.size=size then some (.append size bytes s x)else none
    |some .string,some 1,some 1,some z=>if z.cells.size=1 then some (.Av s x)else none
    |some (.int _),some size,some bytes,some z=>if z.cells.size=size then some (.Ex bytes z.cells.toList s x)else none
    |_,_,_,_=>none
   |_=>none
 | .copy,[t,u],[d,s]=>match P.underlying t,P.underlying u with
   |some (.slice e),some (.slice _)=>(bq P e).map fun size=>.copy size d s
   |_,_=>none
 | .clear,[t],[x]=>match P.underlying t with
   |some (.slice e)=>(fU P e).bind fun z=>if z.cells.size≠0 then some (.Ew z.cells.toList x)else none
   |_=>none
 | .delete,[t,_],[m,k]=>match P.underlying t with
   |some (.map kt _)=>some (.delete kt m k)
   |_=>none
 | .append,_,_| .cap,_,_| .copy,_,_| .clear,_,_| .delete,_,_=>none
 |_,_,_=>some (.raw o ty)
def lW (P:Program)(o:Oper):Option bZ:=
 if uw o.op.operands.toList=false then none else
 match o.op with
 | .select .. =>none
 | .move x| .assign x=>some (.move x)
 | .pick c a b=>some (.pick c a b)
 | .alloc t=>(fU P t).map fun z=>.alloc z.cells.toList
 | .box _ x=>some (.box x)
 | .build t parts=>match fU P t,P.underlying t with
   |some z,some (.struct fs)=>(nR P fs.toList).bind fun pl=>(fq (pl[·]?) parts.toList).map fun ps=>.build z.cells.toList ps
   |some z,some (.array _ e)=>(bq P e).bind fun s=>(fq (fun i=>some (i*s,s)) parts.toList).map fun ps=>.build z.cells.toList ps
   |_,_=>none
 | .buildSlice t len parts=>match P.underlying t with
   |some (.slice e)=>match bq P e,fU P e with
    |some s,some z=>if 0<s∧len*s≤2 ^ 24∧len<2 ^ 24 then
      (fq (fun i=>some (i*s,s)) parts.toList).map fun ps=>.buildSlice len ((Array.range (len*s)).map (z.cells[· % z.cells.size]!)).toList ps else none
    |_,_=>none
   |_=>none
 | .load t a=>match qH P t,bq P t with
   |some true,some n=>some (.ak n a)
   |some false,some _=>some (.ah a)
   |_,_=>none
 | .store t a x=>(bq P t).map fun n=>.store n a x
 | .nilCheck x=>some (.nilCheck x)
 | .binOp op t x y _=>match op with
   | .eql=>some (wU P o.op o.type false t x y)
   | .neq=>some (wU P o.op o.type true t x y)
   |_=>some (.raw o.op o.type)
 | .convert s d x=>match P.underlying s,P.underlying d with
   |some .string,some (.slice e)=>match P.underlying e,bq P e with
    |some (.int .u8),some 1=>some (.KA x)
    |_,_=>none
   |some (.slice e),some .string=>match P.underlying e with
    |some (.int .u8)=>some (.yX x)
    |_=>none
   |_,_=>some (.raw o.op o.type)
 | .makeInterface t x=>match P.underlying t with
   |some (.interface _)=>none
   |some _=>some (.p9 t x)
   |none=>none
 | .makeFunc (.func f) first captured=>some (.Kz f first.toList captured.toList)
 | .makeMap _ none=>some .mkMap
 | .makeSlice t l c=>match P.underlying t with
   |some (.slice e)=>match bq P e,y7 P e,fU P e with
    |some s,some b,some z=>if 0<s∧z.cells.size=s then some (.mkSlice b z.cells.toList l c)else none
    |_,_,_=>none
   |_=>none
 | .slice t x lo hi mx=>match P.underlying t with
   |some (.slice e)=>(bq P e).bind fun s=>if 0<s then some (.dn s x lo hi mx)else none
   |some (.array n e)=>(bq P e).bind fun s=>if 0<s then some (.yY n s x lo hi mx)else none
   |some .string=>some (.raw o.op o.type)
   |_=>none
 | .fieldAddr t x i=>match P.underlying t with
   |some (.struct fs)=>match fs.toList[i]? with
    |some f=>(bq P f.type).bind fun s=>if s=0 then none else some (.fieldAddr f.offset x)
    |none=>none
   |_=>none
 | .field t x i=>match P.underlying t with
   |some (.struct fs)=>match fs.toList[i]? with
    |some f=>match qH P f.type,bq P f.type with
     |some true,some n=>some (.Vo f.offset n x)
     |some false,some _=>some (.Ti f.offset x)
     |_,_=>none
    |none=>none
   |_=>none
 | .indexAddr t x i=>match P.underlying t with
   |some (.slice e)=>(bq P e).map fun s=>.bg s x i
   |some (.array n e)=>if 1<n then (bq P e).map fun s=>.yZ n s x i else none
   |_=>none
 | .index t x i=>match P.underlying t with
   |some .string=>some (.raw o.op o.type)
   |some (.array n e)=>match qH P e,bq P e with
    |some true,some s=>some (.NM n s x i)
    |some false,some 1=>some (.Kj n x i)
    |_,_=>none
   |_=>none
 | .lookup t m k ok=>match P.underlying t with
   |some (.map kt e)=>(fU P e).map fun z=>.lookup kt z ok m k
   |_=>none
 | .mapUpdate t m k v| .insert t m k v=>match P.underlying t with
   |some (.map kt _)=>some (.mapUpdate kt m k v)
   |_=>none
 | .typeAssert x _ t ok=>match P.underlying t with
   |some (.interface _)=>none
   |some _=>(fU P t).map fun z=>.qW t z ok x
   |none=>none
 | .extract x i=>some (.extract x i)
 | .range t x=>match P.underlying t with
   |some (.map _ _)=>some (.rangeMap x)
   |_=>none
 | .next it false=>some (.wQ it)
 | .next _ true=>none
 | .entry it=>some (.rP it)
 | .call c=>match c.callee with
   | .value (.func f)=>some (.call f c.args.toList)
   | .value x=>some (.nO x c.args.toList)
   | .builtin b=>jv P o.op o.type b c.argTypes.toList c.args.toList
   | .invoke _ _=>none
 |_=>some (.raw o.op o.type)
def pK (ops:Array Oper):Option (Nat×Bool)→Option (Option (Nat×Bool))
 |none=>some none
 |some (j,want)=>match (ops[j]?).bind (·.dst)with
  |some d=>some (some (d,want))
  |none=>none
def ltO (n:Nat):Option Nat→Bool
 |some d=>decide (d<n)
 |none=>true
def ltG (n:Nat):Option (Nat×Bool)→Bool
 |some (d,_)=>decide (d<n)
 |none=>true
def rT (P:Program)(n:Nat)(ops:Array Oper)(o:Oper):Option aN:=
 match lW P o,pK ops o.guard with
 |some io,some g=>if (ltO n o.dst&&ltG n g)=true then some ⟨o.dst,io,g⟩else none
 |_,_=>none
def iA (P:Program)(n:Nat)(ops:Array Oper):List Oper→Option (List aN)
 |[]=>some []
 |o::os=>match rT P n ops o,iA P n ops os with
  |some x,some xs=>some (x::xs)
  |_,_=>none
def eY:List Oper→List Nat→List Nat
 |[],acc=>acc
 |o::os,acc=>eY os (acc++[o.after.toList.foldl (fun s e=>if Region.binds .any e then s ||| 2 ^ e.on ||| acc.getD e.on 0 else s) 0])
def iB:List Oper→Nat→Bool
 |[],_=>true
 |o::os,i=>o.after.toList.all (fun e=> !Region.binds .any e||decide (e.on<i))&&iB os (i+1)
def acts (o:aN):Bool:=o.op.kind == .ac||o.op.kind == .ca
def KE (o:aN):Bool:=o.op.looks
def qa5 (ops:List Oper)(xs:List aN)(done:List Nat):Option Nat:=
 let ready:=(List.range ops.length).filter fun i=> !done.contains i&&(match ops[i]? with|some o=>o.after.toList.all (fun e=> !Region.binds .any e||done.contains e.on)|none=>false)
 match ready.find? fun i=>(match xs[i]? with|some x=> !acts x|none=>false)with
 |some i=>some i
 |none=>ready.head?
def NR (ops:List Oper)(xs:List aN):Nat→List Nat→List Nat
 |0,done=>done
 |k+1,done=>match qa5 ops xs done with
  |some i=>NR ops xs k (done++[i])
  |none=>done
def Dl (ops:Array Oper)(o:Oper):List Nat:=o.looksAt ops
def waits (Et:List Nat)(i j:Nat):Bool:=(Et.getD i 0).testBit j
def rU (xs:List aN)(i:Nat):Bool:=match xs[i]? with
 |some x=>acts x
 |none=>false
def NS (xs:List aN)(i:Nat):Bool:=match xs[i]? with
 |some x=>KE x
 |none=>false
def KF (xs:List aN)(Et:List Nat):List Nat→List Nat→Bool
 |_,[]=>true
 |pre,i::r=>pre.all (fun j=>(!rU xs j||waits Et i j) && !waits Et j i)&&KF xs Et (pre++[i]) r
def ZP (ops:Array Oper)(xs:List aN)(Et:List Nat):Bool:=
 (List.range ops.size).all fun i=>(List.range ops.size).all fun j=>i == j||match ops[i]?,ops[j]? with
   |some oi,some oj=>match oi.dst with
    |some d=>(oj.dst != some d)&&(!(Dl ops oj).contains d||waits Et j i||(waits Et i j && !NS xs j))
    |none=>true
   |_,_=>false
def ZQ (ops:Array Oper):Bool:=
 ops.toList.all fun o=>match o.dst with
  |some d=> !(Dl ops o).contains d
  |none=>true
def RF (ops:Array Oper)(xs:List aN)(Et:List Nat)(σ:List Nat):Bool:=
 iB ops.toList 0&&decide (σ.length=ops.size)&&decide (σ.Nodup)&&σ.all (fun i=>decide (i<ops.size))&&KF xs Et [] σ&&ZP ops xs Et&&ZQ ops
def Gw (xs:List aN)(Et:List Nat)(ahead:List Nat)(i:Nat):List aN:=
 match xs[i]? with
 |some x=>if acts x then ahead.filterMap fun j=>match xs[j]? with
   |some y=>if KE y && !waits Et i j then some y else none
   |none=>none
  else []
 |none=>[]
def Mj (xs:List aN)(Et:List Nat):List Nat→List Nat→List (aN×List aN)
 |_,[]=>[]
 |ahead,i::r=>match xs[i]? with
  |some x=>(x,Gw xs Et ahead i)::Mj xs Et (ahead++[i]) r
  |none=>[]
def KG (P:Program)(n:Nat)(ops:Array Oper):Option (List (aN×List aN)):=
 match iA P n ops ops.toList with
 |some xs=>
  let Et:=eY ops.toList []
  let σ:=NR ops.toList xs ops.size []
  if RF ops xs Et σ then some (Mj xs Et [] σ)else none
 |none=>none
def comp (P:Program)(n:Nat):Code→Option qR
 | .skip=>some .skip
 | .region _ ops false=>(iA P n ops ops.toList).map .ops
 | .region _ ops true=>(KG P n ops).map .draw
 | .seq a b=>match comp P n a,comp P n b with
   |some x,some y=>some (.seq x y)
   |_,_=>none
 | .cond c a b=>if okO c then match comp P n a,comp P n b with
     |some x,some y=>some (.cond c x y)
     |_,_=>none
   else none
 | .block id a=>(comp P n a).map (.block id)
 | .loop a=>(comp P n a).map .loop
 | .exit id=>some (.exit id)
 | .ret=>some .ret
 |_=>none
def qa (P:Program):List ResultVar→Option (List II)
 |[]=>some []
 | .tmp t::r=>(qa P r).map (.tmp t :: ·)
 | .cell a t::r=>match qH P t,bq P t with
   |some true,some n=>(qa P r).map (.dD a n :: ·)
   |some false,some _=>(qa P r).map (.cell1 a :: ·)
   |_,_=>none
def vg (P:Program)(f:FuncId):Option aA:=
 match P.funcs[f]? with
 |some fn=>match fn.body,(fn.name == "runtime.NumGoroutine")with
  |some c,false=>match comp P fn.ntmps c,qa P fn.results.toList with
   |some b,some r=>some ⟨fn.ntmps,r,b⟩
   |_,_=>none
  |_,_=>none
 |none=>none
structure Ren where
 dom:Nat→Prop
 blk:Nat→Nat
 base:Nat→Nat
 size:Nat→Nat
 len:Nat→Nat
mutual
inductive VR (R:Ren):Value→Value→Prop
 |bool (b):VR R (.bool b) (.bool b)
 |int (k n):VR R (.int k n) (.int k n)
 |float (k n):VR R (.float k n) (.float k n)
 |complex (k n m):VR R (.complex k n m) (.complex k n m)
 |string (s):VR R (.string s) (.string s)
 |Vr:VR R (.pointer none) (.pointer none)
 |ptr (b o):R.dom b→VR R (.pointer (some ⟨b,o,none⟩)) (.pointer (some ⟨R.blk b,R.base b+o,none⟩))
 |vk:VR R (.slice none 0 0) (.slice none 0 0)
 |fP (b o len c):R.dom b→c<dY→VR R (.slice (some ⟨b,o,none⟩) len c) (.slice (some ⟨R.blk b,R.base b+o,none⟩) len c)
 |je (b o len c e):R.dom b→0<e→len≤c→(e=1∨c<dY)→R.len b≤o+c*e→R.base b+o+c*e≤R.size b →
   VR R (.slice (some ⟨b,o,none⟩) len (dY+e)) (.slice (some ⟨R.blk b,R.base b+o,none⟩) len c)
 |kL (b o e a):R.dom b→0<e→R.len b≤o→VR R (.slice (some ⟨b,o,none⟩) 0 (dY+e)) (.slice (some a) 0 0)
 |mO (b o a):R.dom b→VR R (.slice (some ⟨b,o,none⟩) 0 0) (.slice (some a) 0 0)
 |Vs:VR R (.map none) (.map none)
 |map (r):R.dom r→VR R (.map (some r)) (.map (some (R.blk r)))
 |nilFunc:VR R .nilFunc .nilFunc
 |func (f a b a' b'):fE R a.toList a'.toList→fE R b.toList b'.toList→VR R (.func (.func f) a b) (.func (.func f) a' b')
 |nilIface:VR R .nilIface .nilIface
 |iface (t v v'):VR R v v'→VR R (.iface t v) (.iface t v')
 |agg (a a'):fE R a.toList a'.toList→VR R (.agg a) (.agg a')
 |tuple (a a'):fE R a.toList a'.toList→VR R (.tuple a) (.tuple a')
 |any (v):cO v=true→(∀b,v ≠ .bool b)→VR R (.chan none) v
inductive fE (R:Ren):List Value→List Value→Prop
 |nil:fE R [] []
 |cons {v v' l l'}:VR R v v'→fE R l l'→fE R (v::l) (v'::l')
end
structure Ren.le (R R':Ren):Prop where
 dom: ∀b,R.dom b→R'.dom b
 blk: ∀b,R.dom b→R'.blk b=R.blk b
 base: ∀b,R.dom b→R'.base b=R.base b
 size: ∀b,R.dom b→R'.size b=R.size b
 len: ∀b,R.dom b→R'.len b=R.len b
theorem Ren.le_refl (R:Ren):R.le R:=⟨fun _ h=>h,fun _ _=>rfl,fun _ _=>rfl,fun _ _=>rfl,fun _ _=>rfl⟩
theorem Ren.le.trans {A B C:Ren}(h:A.le B)(k:B.le C):A.le C:=
 ⟨fun b hb=>k.dom b (h.dom b hb),fun b hb=>(k.blk b (h.dom b hb)).trans (h.blk b hb),fun b hb=>(k.base b (h.dom b hb)).trans (h.base b hb),
  fun b hb=>(k.size b (h.dom b hb)).trans (h.size b hb),fun b hb=>(k.len b (h.dom b hb)).trans (h.len b hb)⟩
mutual
theorem VR.mono {R R':Ren}(h:R.le R'): ∀{v v':Value},VR R v v'→VR R' v v'
 |_,_,.bool b=>.bool b
 |_,_,.int k n=>.int k n
 |_,_,.float k n=>.float k n
 |_,_,.complex k n m=>.complex k n m
 |_,_,.string s=>.string s
 |_,_,.Vr=>.Vr
 |_,_,.ptr b o hb=>by rw[←h.blk b hb,←h.base b hb];exact .ptr b o (h.dom b hb)
 |_,_,.vk=>.vk
 |_,_,.fP b o len c hb hc=>by rw[←h.blk b hb,←h.base b hb];exact .fP b o len c (h.dom b hb) hc
 |_,_,.je b o len c e hb he hl Aw h1 h2=>by
    rw[←h.len b hb]at h1;rw[←h.base b hb,←h.size b hb]at h2
    rw[←h.blk b hb,←h.base b hb];exact .je b o len c e (h.dom b hb) he hl Aw h1 h2
 |_,_,.kL b o e a hb he h1=>.kL b o e a (h.dom b hb) he (by rw[h.len b hb];exact h1)
 |_,_,.mO b o a hb=>.mO b o a (h.dom b hb)
 |_,_,.Vs=>.Vs
 |_,_,.map r hr=>by rw[←h.blk r hr];exact .map r (h.dom r hr)
 |_,_,.nilFunc=>.nilFunc
 |_,_,.func f a b a' b' h1 h2=>.func f a b a' b' (fE.mono h h1) (fE.mono h h2)
 |_,_,.nilIface=>.nilIface
 |_,_,.iface t v v' h1=>.iface t v v' (VR.mono h h1)
 |_,_,.agg a a' h1=>.agg a a' (fE.mono h h1)
 |_,_,.tuple a a' h1=>.tuple a a' (fE.mono h h1)
 |_,_,.any v h1 h2=>.any v h1 h2
theorem fE.mono {R R':Ren}(h:R.le R'): ∀{l l':List Value},fE R l l'→fE R' l l'
 |_,_,.nil=>.nil
 |_,_,.cons h1 h2=>.cons (VR.mono h h1) (fE.mono h h2)
end
theorem fE.length {R:Ren}: ∀{l l':List Value},fE R l l'→l.length=l'.length
 |_,_,.nil=>rfl
 |_,_,.cons _ h=>by simp[fE.length h]
theorem fE.get {R:Ren}: ∀{l l':List Value},fE R l l'→∀(i:Nat) (v:Value),l[i]? =some v→∃v',l'[i]? =some v'∧VR R v v'
 |_,_,.nil,i,v,h=>by simp at h
 |_,_,.cons (v:=u) (v':=u') hu hs,i,v,h=>by
  cases i with
  |zero=>simp at h;subst h;exact⟨u',by simp,hu⟩
  |succ i=>simpa using fE.get hs i v (by simpa using h)
theorem fE.append {R:Ren}{b b':List Value}(h2:fE R b b'): ∀{a a':List Value},fE R a a'→fE R (a++b) (a'++b')
 |_,_,.nil=>h2
 |_,_,.cons h hs=>.cons h (fE.append h2 hs)
theorem fE.take {R:Ren}: ∀{l l':List Value},fE R l l'→∀n,fE R (l.take n) (l'.take n)
 |_,_,.nil,n=>by simp;exact .nil
 |_,_,.cons h hs,0=>by simp;exact .nil
 |_,_,.cons h hs,n+1=>by simp;exact .cons h (fE.take hs n)
theorem fE.drop {R:Ren}: ∀{l l':List Value},fE R l l'→∀n,fE R (l.drop n) (l'.drop n)
 |_,_,.nil,n=>by simp;exact .nil
 |_,_,.cons h hs,0=>by simp;exact .cons h hs
 |_,_,.cons h hs,n+1=>by simp;exact fE.drop hs n
theorem fE.putAt {R:Ren}{l l' vs vs':List Value}(h:fE R l l')(hv:fE R vs vs')(o:Nat):fE R (putAt l o vs) (putAt l' o vs'):=by
 unfold Go.Proofs.YtpbbjfighohokaaGreatI.putAt
 rw[hv.length]
 exact fE.append (h.drop _) (fE.append hv (h.take _))
theorem fE.map {R:Ren}{α:Type}{f g:α→Value}: ∀(l:List α),(∀x ∈ l,VR R (f x) (g x))→fE R (l.map f) (l.map g)
 |[],_=>.nil
 |x::l,h=>.cons (h x (by simp)) (fE.map l fun y hy=>h y (by simp[hy]))
theorem VR.vo (R:Ren){v:Value}(h:qQ v=true):VR R v v:=by
 cases v <;> first|(simp[qQ]at h;done)|constructor
theorem fE.vo (R:Ren): ∀{l:List Value},l.all qQ=true→fE R l l
 |[],_=>.nil
 |v::l,h=>by
  simp only[List.all_cons,Bool.and_eq_true]at h
  exact .cons (VR.vo R h.1) (fE.vo R h.2)
theorem VR.NT (R:Ren){v:Value}(h:lV v=true):VR R v v:=by
 cases v <;> first|exact VR.vo R h|exact .agg _ _ (fE.vo R h)
theorem VR.Ez {R:Ren}{v v':Value}(h:VR R v v')(hs:qQ v=true):v'=v:=by
 cases h <;> first|rfl|(simp[qQ]at hs;done)
theorem fE.Ez {R:Ren}: ∀{l l':List Value},fE R l l'→l.all qQ=true→l'=l
 |_,_,.nil,_=>rfl
 |_,_,.cons h hs,hl=>by
  simp only[List.all_cons,Bool.and_eq_true]at hl
  rw[VR.Ez h hl.1,fE.Ez hs hl.2]
theorem VR.wV {R:Ren}{v v':Value}(h:VR R v v')(hs:lV v=true):v'=v:=by
 cases h <;> first|rfl|(simp[lV,qQ]at hs;done)|skip
 rename_i a a' hl
 have:=fE.Ez hl hs
 cases a;cases a';simp_all
theorem VR.pM (R:Ren){v:Value}(h:wT v=true):VR R v v:=by
 unfold wT at h
 split at h <;> first|constructor|exact VR.vo R h|skip
 rename_i vs
 simp at h
 subst h
 exact .nil
theorem fE.pM (R:Ren): ∀{l:List Value},l.all wT=true→fE R l l
 |[],_=>.nil
 |v::l,h=>by
  simp only[List.all_cons,Bool.and_eq_true]at h
  exact .cons (VR.pM R h.1) (fE.pM R h.2)
theorem VR.rO (R:Ren){v:Value}(h:qX v=true):VR R v v:=by
 unfold qX at h
 split at h
 ·exact .agg _ _ (fE.pM R h)
 ·exact VR.pM R h
theorem VR.cells {R:Ren}{v v':Value}(h:VR R v v'):fE R v.cells.toList v'.cells.toList:=by
 have h':=h
 cases h with
 |agg a a' h1=>exact h1
 |any _ h1 _=>
  have:v'.cells = #[v']:=by cases v' <;> first|rfl|(simp[cO]at h1;done)
  rw[this]
  exact .cons h' .nil
 |_=>exact .cons h' .nil
theorem VR.one {R:Ren}{v v':Value}(h:VR R v v'):cO v'=cO v:=by cases h <;> first|rfl|assumption
theorem fE.one {R:Ren}: ∀{l l':List Value},fE R l l'→l'.all cO=l.all cO
 |_,_,.nil=>rfl
 |_,_,.cons h hs=>by simp[VR.one h,fE.one hs]
structure Mk (R:Ren)(e e':MapEntry):Prop where
 key:VR R e.key e'.key
 val:VR R e.val e'.val
 born:e'.born=e.born
inductive dz (R:Ren):List MapEntry→List MapEntry→Prop
 |nil:dz R [] []
 |cons {e e' l l'}:Mk R e e'→dz R l l'→dz R (e::l) (e'::l')
theorem Mk.mono {R R':Ren}(h:R.le R'){e e':MapEntry}(k:Mk R e e'):Mk R' e e':=⟨k.key.mono h,k.val.mono h,k.born⟩
theorem dz.mono {R R':Ren}(h:R.le R'): ∀{l l':List MapEntry},dz R l l'→dz R' l l'
 |_,_,.nil=>.nil
 |_,_,.cons h1 h2=>.cons (h1.mono h) (dz.mono h h2)
theorem dz.length {R:Ren}: ∀{l l':List MapEntry},dz R l l'→l.length=l'.length
 |_,_,.nil=>rfl
 |_,_,.cons _ h=>by simp[dz.length h]
theorem dz.get {R:Ren}: ∀{l l':List MapEntry},dz R l l'→∀(i:Nat) (v:MapEntry),l[i]? =some v→∃v',l'[i]? =some v'∧Mk R v v'
 |_,_,.nil,i,v,h=>by simp at h
 |_,_,.cons (e:=u) (e':=u') hu hs,i,v,h=>by
  cases i with
  |zero=>simp at h;subst h;exact⟨u',by simp,hu⟩
  |succ i=>simpa using dz.get hs i v (by simpa using h)
theorem dz.append {R:Ren}{b b':List MapEntry}(h2:dz R b b'): ∀{a a':List MapEntry},dz R a a'→dz R (a++b) (a'++b')
 |_,_,.nil=>h2
 |_,_,.cons h hs=>.cons h (dz.append h2 hs)
theorem dz.modify {R:Ren}{f f':MapEntry→MapEntry}(hf: ∀e e',Mk R e e'→Mk R (f e) (f' e')): ∀{l l':List MapEntry},dz R l l'→∀i,dz R (l.modify i f) (l'.modify i f')
 |_,_,.nil,i=>by simp;exact .nil
 |_,_,.cons h hs,0=>by simp;exact .cons (hf _ _ h) hs
 |_,_,.cons h hs,i+1=>by simp;exact .cons h (dz.modify hf hs i)
theorem dz.erase {R:Ren}: ∀{l l':List MapEntry},dz R l l'→∀i,dz R (l.eraseIdx i) (l'.eraseIdx i)
 |_,_,.nil,i=>by simp;exact .nil
 |_,_,.cons h hs,0=>by simp;exact hs
 |_,_,.cons h hs,i+1=>by simp;exact .cons h (dz.erase hs i)
def MP (R:Ren):Option Nat→Option Nat→Prop
 |none,none=>True
 |some i,some j=>R.dom i∧j=R.blk i
 |_,_=>False
theorem MP.mono {R R':Ren}(h:R.le R'): ∀{m m':Option Nat},MP R m m'→MP R' m m'
 |none,none,_=>trivial
 |some _,some _,k=>⟨h.dom _ k.1,by rw[k.2,h.blk _ k.1]⟩
 |none,some _,k=>k.elim
 |some _,none,k=>k.elim
def live (H:aa)(b:Nat):Prop:=match H.get b with
 |some .dead|none=>False
 |some _=>True
def bI (H:aa)(b:Nat):Prop:=match H.get b with
 |some (.cells _ true)|some .dead|none=>False
 |some _=>True
def wW (R:Ren)(o:Option fK)(b:Nat)(w:World):Prop:=
 match o with
 |some (.cells cs ro)=>cs.length=R.len b∧R.base b+cs.length≤R.size b∧∃arr t fr,w.heap[R.blk b]? =some (.cells arr t fr)∧arr.size=R.size b ∧
   fE R cs ((arr.toList.drop (R.base b)).take cs.length)∧(ro=false→∀j,R.base b≤j→j≤R.size b→¬ (fr.1≤j∧j<fr.2))
 |some (.map es clock)=> ∃es':Array MapEntry,w.heap[R.blk b]? =some (.map es' clock)∧dz R es es'.toList
 |some (.iter m since seen last)=>R.base b=0∧∃m',w.heap[R.blk b]? =some (.mapIter m' since seen.toArray last)∧MP R m m'
 |some .dead=>True
 |none=>False
structure jC (R:Ren)(H:aa)(w:World):Prop where
 lt: ∀b,R.dom b→b<H.next
 obj: ∀b,R.dom b→wW R (H.get b) b w
 inj: ∀b c,R.dom b→R.dom c→live H b→live H c→(bI H b∨bI H c)→R.blk b=R.blk c→b=c
 wf: ∀b,H.next≤b→H.get b=none
structure Ext (R:Ren)(H:aa)(w:World)(R':Ren)(H':aa)(w':World):Prop where
 le:R.le R'
 next:H.next≤H'.next
 new: ∀b,R'.dom b→R.dom b∨H.next≤b
 far: ∀b,b<H.next→¬ R.dom b→H'.get b=H.get b
 ro: ∀b cs,H.get b=some (.cells cs true)→b<H.next→H'.get b=some (.cells cs true)
 frame: ∀k,k<w.heap.size→(∀b,R.dom b→bI H b→R.blk b≠k)→w'.heap[k]? =w.heap[k]?
 own: ∀b,R'.dom b→bI H' b→w.heap.size≤R'.blk b∨∃c,R.dom c∧bI H c∧R.blk c=R'.blk b
 size:w.heap.size≤w'.heap.size
 os:w'.os=w.os
 tape:w'.tape=w.tape
 output:w'.output=w.output
theorem KH {H:aa}{b:Nat}(h:bI H b):live H b:=by
 unfold bI at h;unfold live
 split at h <;> simp_all
theorem jC.qae {R:Ren}{H:aa}{w:World}(h:jC R H w){b:Nat}(hb:R.dom b)(hl:live H b):R.blk b<w.heap.size:=by
 have ho:=h.obj b hb
 unfold live at hl
 unfold wW at ho
 cases hg:H.get b with
 |none=>simp[hg]at hl
 |some o=>
  rw[hg]at ho hl
  cases o with
  |cells cs ro=>
   obtain⟨_,_,arr,t,fr,hw,_⟩:=ho
   exact(Array.getElem?_eq_some_iff.1 hw).1
  |map es clock=>
   obtain⟨es',hw,_⟩:=ho
   exact(Array.getElem?_eq_some_iff.1 hw).1
  |iter m since seen last=>
   obtain⟨_,m',hw,_⟩:=ho
   exact(Array.getElem?_eq_some_iff.1 hw).1
  |dead=>simp at hl
theorem Ext.refl (R:Ren)(H:aa)(w:World):Ext R H w R H w:=
 ⟨R.le_refl,Nat.le_refl _,fun _ h=>.inl h,fun _ _ _=>rfl,fun _ _ h _=>h,fun _ _ _=>rfl,fun b hb hl=>.inr ⟨b,hb,hl,rfl⟩,Nat.le_refl _,rfl,rfl,rfl⟩
theorem Ext.trans {R R' R'':Ren}{H H' Rw:aa}{w w' w'':World}(h:Ext R H w R' H' w')(k:Ext R' H' w' R'' Rw w''):Ext R H w R'' Rw w'' where
 le:=h.le.trans k.le
 next:=Nat.le_trans h.next k.next
 new:=fun b hb=>by
  rcases k.new b hb with h1|h1
  ·exact h.new b h1
  ·exact .inr (Nat.le_trans h.next h1)
 far:=fun b hb hn=>by
  have hb': ¬ R'.dom b:=fun hd=>(h.new b hd).elim hn (fun h1=>by omega)
  rw[k.far b (Nat.lt_of_lt_of_le hb h.next) hb',h.far b hb hn]
 ro:=fun b cs hg hb=>k.ro b cs (h.ro b cs hg hb) (Nat.lt_of_lt_of_le hb h.next)
 frame:=fun i hi hn=>by
  rw[k.frame i (Nat.lt_of_lt_of_le hi h.size) ?_,h.frame i hi hn]
  intro b hb hl he
  rcases h.own b hb hl with h1|⟨c,hc,hlc,hec⟩
  ·omega
  ·exact hn c hc hlc (hec.trans he)
 own:=fun b hb hl=>by
  rcases k.own b hb hl with h1|⟨c,hc,hlc,hec⟩
  ·exact .inl (Nat.le_trans h.size h1)
  ·rcases h.own c hc hlc with h1|⟨d,hd,hld,hed⟩
   ·exact .inl (hec▸h1)
   ·exact .inr ⟨d,hd,hld,hed.trans hec⟩
 size:=Nat.le_trans h.size k.size
 os:=k.os.trans h.os
 tape:=k.tape.trans h.tape
 output:=k.output.trans h.output
theorem jC.drawn {R:Ren}{H:aa}{w:World}(h:jC R H w)(n:Nat):jC R H {w with drawn:=n}:=⟨h.lt,fun b hb=>h.obj b hb,h.inj,h.wf⟩
theorem Ext.drawn {R R':Ren}{H H':aa}{w w':World}{n:Nat}(h:Ext R H {w with drawn:=n} R' H' w'):Ext R H w R' H' w':=
 ⟨h.le,h.next,h.new,h.far,h.ro,h.frame,h.own,h.size,h.os,h.tape,h.output⟩
structure kY (n:Nat)(R:Ren)(T:Env)(tmps:Array Value):Prop where
 size:tmps.size=n
 get: ∀t,VR R (T t) (tmps.getD t undef)
theorem VR.undef (R:Ren):VR R undef undef:=.tuple _ _ .nil
theorem kY.mono {n:Nat}{R R':Ren}{T:Env}{tmps:Array Value}(h:R.le R')(k:kY n R T tmps):kY n R' T tmps:=⟨k.size,fun t=>(k.get t).mono h⟩
theorem kY.put {n:Nat}{R:Ren}{T:Env}{a:Act}(k:kY n R T a.tmps){d:Option Nat}(hd: ∀x,d=some x→x<n){v v':Value}(hv:VR R v v'):
 kY n R (T.put d v) (a.put d v').tmps:=by
 cases d with
 |none=>exact k
 |some x=>
  have hx:=hd x rfl
  refine⟨by simp[Act.put,k.size],fun t=> ?_⟩
  show VR R (if t=x then v else T t) _
  by_cases h:t=x
  ·subst h
   have:t<a.tmps.size:=by rw[k.size];exact hx
   simp[Act.put,this]
   exact hv
  ·have hne:x≠t:=fun e=>h e.symm
   have h1:=k.get t
   simp[Act.put,h,Array.getElem?_setIfInBounds_ne hne]at h1 ⊢
   exact h1
theorem put_defers (a:Act)(d:Option Nat)(v:Value):(a.put d v).defers=a.defers:=by cases d <;> rfl
theorem bz {n:Nat}{R:Ren}{T:Env}{a:Act}(k:kY n R T a.tmps){x:Operand}(hx:okO x=true):VR R (ev T x) (a.eval x):=by
 cases x with
 |tmp t=>exact k.get t
 |const v=>exact VR.rO R hx
 |global g=>simp[okO]at hx
 |func f=>exact .func f _ _ _ _ .nil .nil
theorem NU {n:Nat}{R:Ren}{T:Env}{a:Act}(k:kY n R T a.tmps): ∀{l:List Operand},uw l=true→fE R (l.map (ev T)) (l.map a.eval)
 |[],_=>.nil
 |x::l,h=>by
  simp only[uw,List.all_cons,Bool.and_eq_true]at h
  exact .cons (bz k h.1) (NU k h.2)
theorem add_lit (b o n:Nat):Addr.add ⟨b,o,none⟩ n=⟨b,o+n,none⟩:=by
 unfold Addr.add;split <;> simp_all
theorem KI {w:World}{b o:Nat}{arr:Array Value}{t:TypeId}{fr:Nat×Nat}(h:w.heap[b]? =some (.cells arr t fr)):w.cell? ⟨b,o,none⟩=arr[o]? :=by
 simp[World.cell?,h]
theorem EA (P:Program){w:World}{b o:Nat}{arr:Array Value}{t:TypeId}{fr:Nat×Nat}(h:w.heap[b]? =some (.cells arr t fr)):
 ∀(n i:Nat) (acc:Array Value),o+i+n≤arr.size →
  (loadCellsFrom ⟨b,o,none⟩ i n acc).run P w = .ok (acc++((arr.toList.drop (o+i)).take n).toArray) w
 |0,i,acc,_=>by simp[loadCellsFrom]
 |n+1,i,acc,hn=>by
  have hlt:o+i<arr.size:=by omega
  have hc:w.cell? ⟨b,o+i,none⟩=some arr[o+i]:=by rw[KI h];simp[hlt]
  have hd:arr.toList.drop (o+i)=arr[o+i]::arr.toList.drop (o+(i+1)):=by
   rw[List.drop_eq_getElem_cons (by simpa using hlt)];simp[Nat.add_assoc]
  simp only[loadCellsFrom,Sem.run_bind,run_load,add_lit,hc,Result.andThen_ok]
  rw[EA P h n (i+1) _ (by omega),hd]
  simp
theorem run_loadCells (P:Program){w:World}{b o n:Nat}{arr:Array Value}{t:TypeId}{fr:Nat×Nat}(h:w.heap[b]? =some (.cells arr t fr))(hn:o+n≤arr.size):
 (loadCells ⟨b,o,none⟩ n).run P w = .ok ((arr.toList.drop o).take n).toArray w:=by
 unfold loadCells
 rw[EA P h n 0 #[] (by omega)]
 simp
def World.lg (w:World)(b:Nat)(arr:Array Value)(t:TypeId)(fr:Nat×Nat):World:={w with heap:=w.heap.setIfInBounds b (.cells arr t fr)}
theorem RG (P:Program){w:World}{b o:Nat}{v:Value}{arr:Array Value}{t:TypeId}{fr:Nat×Nat}(h:w.heap[b]? =some (.cells arr t fr))(ho:o<arr.size)
 (hv:cO v=true) (hf: ¬ (fr.1≤o∧o<fr.2)):(store ⟨b,o,none⟩ v).run P w = .ok () (World.lg w b (arr.setIfInBounds o v) t fr):=by
 have hc:w.cell? ⟨b,o,none⟩=some arr[o]:=by rw[KI h];simp[ho]
 have hfz:w.frozen? ⟨b,o,none⟩=false:=by
  simp only[World.frozen?,h]
  cases fr with
  |mk lo hi=>simp only[Bool.and_eq_false_iff,decide_eq_false_iff_not];simp only[]at hf;omega
 have hs:w.setCell ⟨b,o,none⟩ v=World.lg w b (arr.setIfInBounds o v) t fr:=by
  unfold World.setCell World.lg
  congr 1
  apply Array.ext_getElem?
  intro i
  by_cases hi:i=b
  ·subst hi
   obtain⟨hlt,hh⟩:=Array.getElem?_eq_some_iff.1 h
   simp[Array.getElem_modify,hh,hlt]
  ·have hi':b≠i:=fun e=>hi e.symm
   simp[Array.getElem?_modify,Array.getElem?_setIfInBounds_ne hi',hi']
 unfold store
 cases v <;> first|(simp[cO]at hv;done)|simp only[Sem.run,hc,hfz,hs,Bool.false_eq_true,if_false]
theorem Dm {w:World}{b:Nat}{arr:Array Value}{t:TypeId}{fr:Nat×Nat}(h:b<w.heap.size):(World.lg w b arr t fr).heap[b]? =some (.cells arr t fr):=by
 simp[World.lg,h]
theorem Ml (w:World)(b:Nat)(arr Vt:Array Value)(t t':TypeId)(fr fr':Nat×Nat):
 World.lg (World.lg w b arr t fr) b Vt t' fr'=World.lg w b Vt t' fr':=by
 simp[World.lg]
theorem PM {w:World}{b:Nat}{arr:Array Value}{t:TypeId}{fr:Nat×Nat}(h:w.heap[b]? =some (.cells arr t fr)):World.lg w b arr t fr=w:=by
 unfold World.lg
 congr 1
 apply Array.ext_getElem?
 intro i
 by_cases hi:i=b
 ·subst hi
  obtain⟨hlt,hh⟩:=Array.getElem?_eq_some_iff.1 h
  simp[hlt,hh]
 ·have hi':b≠i:=fun e=>hi e.symm
  simp[Array.getElem?_setIfInBounds_ne hi']
theorem TV {w:World}{b k:Nat}{arr:Array Value}{t:TypeId}{fr:Nat×Nat}(h:b≠k):(World.lg w b arr t fr).heap[k]? =w.heap[k]? :=by
 simp[World.lg,Array.getElem?_setIfInBounds_ne h]
theorem CX (P:Program)(b o:Nat)(t:TypeId)(fr:Nat×Nat): ∀(vs:List Value) (i:Nat) (w:World) (arr:Array Value),w.heap[b]? =some (.cells arr t fr) →
 o+i+vs.length≤arr.size→vs.all cO=true→(∀j,o+i≤j→j<o+i+vs.length→¬ (fr.1≤j∧j<fr.2)) →
  (storeCells ⟨b,o,none⟩ vs i).run P w = .ok () (World.lg w b (putAt arr.toList (o+i) vs).toArray t fr)
 |[],i,w,arr,h,hn,_,_=>by
  simp only[storeCells,Sem.run_pure,putAt,List.length_nil,Nat.add_zero,List.append_nil,List.take_append_drop,Array.toArray_toList]
  rw[PM h]
 |v::vs,i,w,arr,h,hn,h1,hf=>by
  simp only[List.all_cons,Bool.and_eq_true]at h1
  simp only[List.length_cons]at hn hf
  have hlt:o+i<arr.size:=by omega
  have hb:b<w.heap.size:=(Array.getElem?_eq_some_iff.1 h).1
  simp only[storeCells,Sem.run_bind,add_lit]
  rw[RG P h hlt h1.1 (hf _ (Nat.le_refl _) (by omega))]
  simp only[Result.andThen_ok]
  rw[CX P b o t fr vs (i+1) _ (arr.setIfInBounds (o+i) v) (Dm hb) (by simpa using(by omega:o+(i+1)+vs.length≤arr.size)) h1.2
   (fun j hj1 hj2=>hf j (by omega) (by omega)),Ml]
  congr 2
  apply congrArg
  simp only[putAt,Array.toList_setIfInBounds,List.length_cons]
  have e1:(arr.toList.set (o+i) v).take (o+(i+1))=arr.toList.take (o+i)++[v]:=by
   rw[show o+(i+1)=(o+i)+1 by omega,List.take_add_one]
   simp[List.take_set,hlt]
   rw[List.set_eq_of_length_le (by simp;omega)]
  have e2:(arr.toList.set (o+i) v).drop (o+(i+1)+vs.length)=arr.toList.drop (o+i+(vs.length+1)):=by
   rw[List.drop_set]
   rw[if_pos (by omega)]
   congr 1;omega
  rw[e1,e2]
  simp
theorem y8 (P:Program){b o:Nat}{t:TypeId}{fr:Nat×Nat}{vs:List Value}{w:World}{arr:Array Value}(h:w.heap[b]? =some (.cells arr t fr))
 (hn:o+vs.length≤arr.size) (h1:vs.all cO=true) (hf: ∀j,o≤j→j<o+vs.length→¬ (fr.1≤j∧j<fr.2)):
 (storeCells ⟨b,o,none⟩ vs).run P w = .ok () (World.lg w b (putAt arr.toList o vs).toArray t fr):=by
 have:=CX P b o t fr vs 0 w arr h (by omega) h1 (fun j a c=>hf j (by omega) (by omega))
 simpa using this
theorem ql {α:Type}{P:Program}{s:Sem α}{a:α}(h:aB P s=some a)(w:World):s.run P w = .ok a w:=by
 induction s with
 |pure b=>simp[aB]at h;simp[Sem.run,h]
 |program k ih=>simp only[aB]at h;simp only[Sem.run];exact ih _ h
 |mark m k ih=>simp only[aB]at h;simp only[Sem.run];exact ih h
 |_=>simp[aB]at h
theorem jD (P:Program){w:World}{r cl:Nat}{es:Array MapEntry}(h:w.heap[r]? =some (.map es cl)):(getObj r).run P w = .ok (.map es cl) w:=by
 simp[getObj,Sem.run,h]
theorem aJ {P:Program}{t:TypeId}{d:TypeDesc}(h:P.underlying t=some d)(w:World):(underlying t).run P w = .ok d w:=by
 simp[underlying,h]
theorem run_typeInfo {P:Program}{t:TypeId}{i:TypeInfo}(h:P.info? t=some i)(w:World):(typeInfo t).run P w = .ok i w:=by
 simp[typeInfo,h]
theorem dN {P:Program}{t:TypeId}{n:Nat}(h:bq P t=some n)(w:World):(sizeOf t).run P w = .ok n w:=by
 unfold bq at h
 cases hi:P.info? t with
 |none=>simp[hi]at h
 |some i=>simp[hi]at h;simp[sizeOf,run_typeInfo hi,h]
theorem jU {P:Program}{t:TypeId}{z:Value}(h:fU P t=some z)(w:World):(zeroValue t).run P w = .ok z w∧qX z=true:=by
 unfold fU at h
 cases hi:P.info? t with
 |none=>simp[hi]at h
 |some i=>
  cases hz:i.zero with
  |none=>simp[hi,hz]at h
  |some z'=>
   simp[hi,hz]at h
   obtain⟨hg,rfl⟩:=h
   exact⟨by simp[zeroValue,run_typeInfo hi,hz],hg⟩
theorem EB {P:Program}{t:TypeId}{b:Bool}(h:qH P t=some b)(w:World):(isAgg t).run P w = .ok b w:=by
 unfold qH at h
 cases hu:P.underlying t with
 |none=>simp[hu]at h
 |some d=>cases d <;> simp[hu]at h <;> subst h <;> simp[isAgg,aJ hu]
theorem EC {P:Program}{t:TypeId}{n:Nat}(ha:qH P t=some true)(hs:bq P t=some n){w:World}{b o:Nat}{arr:Array Value}{e:TypeId}{fr:Nat×Nat}
 (h:w.heap[b]? =some (.cells arr e fr)) (hn:o+n≤arr.size):(loadVar t ⟨b,o,none⟩).run P w = .ok (.agg ((arr.toList.drop o).take n).toArray) w:=by
 simp[loadVar,EB ha,dN hs,run_loadCells P h hn]
theorem ED {P:Program}{t:TypeId}(ha:qH P t=some false){w:World}{b o:Nat}{arr:Array Value}{e:TypeId}{fr:Nat×Nat}{v:Value}
 (h:w.heap[b]? =some (.cells arr e fr)) (hv:arr[o]? =some v):(loadVar t ⟨b,o,none⟩).run P w = .ok v w:=by
 simp[loadVar,EB ha,KI h,hv]
theorem jC.aP {R:Ren}{H:aa}{w:World}(hS:jC R H w){b o n:Nat}{l:List Value}(hb:R.dom b)(h:H.aP b o n=some l):
 ∃arr t fr,w.heap[R.blk b]? =some (.cells arr t fr)∧R.base b+o+n≤arr.size∧fE R l ((arr.toList.drop (R.base b+o)).take n):=by
 unfold aa.aP at h
 have ho:=hS.obj b hb
 cases hg:H.get b with
 |none=>simp[hg]at h
 |some x=>
  cases x with
  |cells cs ro=>
   rw[hg]at ho
   obtain⟨h1,h2,arr,t,fr,hw,hsz,hv,_⟩:=ho
   simp only[hg]at h
   split at h
   ·rename_i hle
    injection h with h
    subst h
    refine⟨arr,t,fr,hw,by omega,?_⟩
    have:=(hv.drop o).take n
    rw[List.drop_take,List.take_take,List.drop_drop]at this
    rw[show min n (cs.length-o)=n by omega]at this
    exact this
   ·cases h
  |_=>simp[hg]at h
theorem jC.ah {R:Ren}{H:aa}{w:World}(hS:jC R H w){b o:Nat}{v:Value}(hb:R.dom b)(h:H.ah b o=some v):
 ∃arr t fr v',w.heap[R.blk b]? =some (.cells arr t fr)∧arr[R.base b+o]? =some v'∧VR R v v':=by
 unfold aa.ah at h
 have ho:=hS.obj b hb
 cases hg:H.get b with
 |none=>simp[hg]at h
 |some x=>
  cases x with
  |cells cs ro=>
   rw[hg]at ho
   obtain⟨h1,h2,arr,t,fr,hw,hsz,hv,_⟩:=ho
   simp only[hg]at h
   obtain⟨v',hv',hr⟩:=hv.get o v h
   refine⟨arr,t,fr,v',hw,?_,hr⟩
   have hlt:o<cs.length:=(List.getElem?_eq_some_iff.1 h).1
   rw[List.getElem?_take,if_pos hlt,List.getElem?_drop]at hv'
   simpa using hv'
  |_=>simp[hg]at h
theorem EE {R:Ren}{place:Nat→Option (Nat×Nat)}{T:Env}{a:Act}{n:Nat}(hT:kY n R T a.tmps): ∀(parts:List (Nat×Operand)) (ps:List ((Nat×Nat)×Operand)) (cs l:List Value) (cs':Array Value),
 fq place parts=some ps→(∀x ∈ parts,okO x.2=true)→fE R cs cs'.toList→bu cs (ps.map fun p=>(p.1,ev T p.2))=some l →
  ∃l',Instr.fill place cs' (parts.map fun p=>(p.1,a.eval p.2))=some l'∧fE R l l'.toList
 |[],ps,cs,l,cs',hp,_,hc,hf=>by
  simp only[fq,Option.some.injEq]at hp
  subst hp
  simp only[List.map_nil,bu,Option.some.injEq]at hf
  subst hf
  exact⟨cs',rfl,hc⟩
 |(i,x)::r,ps,cs,l,cs',hp,hok,hc,hf=>by
  simp only[fq,bind,Option.bind,pure]at hp
  cases hpl:place i with
  |none=>simp[hpl]at hp
  |some p=>
   obtain⟨off,size⟩:=p
   cases hr:fq place r with
   |none=>simp[hpl,hr]at hp
   |some rs=>
    simp only[hpl,hr,Option.some.injEq]at hp
    subst hp
    simp only[List.map_cons,bu]at hf
    have hx:VR R (ev T x) (a.eval x):=bz hT (hok (i,x) (by simp))
    have hxc:=hx.cells
    have hsz:(a.eval x).cells.size=(ev T x).cells.size:=by have:=hxc.length;simpa using this.symm
    split at hf
    ·rename_i hcond
     obtain⟨hc1,hc2⟩:=hcond
     have hlen:cs.length=cs'.size:=by have:=hc.length;simpa using this
     simp only[List.map_cons,Instr.fill,hpl]
     rw[if_neg (by rw[hsz,hc1];simp;omega)]
     refine EE hT r rs _ l _ hr (fun y hy=>hok y (by simp[hy])) ?_ hf
     have hput:=fE.putAt hc hxc off
     have:(Array.foldl (fun(cs:Array Value) (x:Value×Nat)=>cs.setIfInBounds (off+x.2) x.1) cs' (a.eval x).cells.zipIdx).toList=putAt cs'.toList off (a.eval x).cells.toList:=by
      have key: ∀(vs:List Value) (k:Nat) (arr:Array Value),off+k+vs.length≤arr.size →
       (List.foldl (fun(cs:Array Value) (x:Value×Nat)=>cs.setIfInBounds (off+x.2) x.1) arr (vs.zipIdx k)).toList=putAt arr.toList (off+k) vs:=by
       intro vs
       induction vs with
       |nil=>intro k arr _;simp[putAt]
       |cons v vs ih=>
        intro k arr hk
        simp only[List.length_cons]at hk
        simp only[List.zipIdx_cons,List.foldl_cons]
        rw[ih (k+1) _ (by simp;omega)]
        have hlt:off+k<arr.size:=by omega
        simp only[putAt,Array.toList_setIfInBounds,List.length_cons]
        have e1:(arr.toList.set (off+k) v).take (off+(k+1))=arr.toList.take (off+k)++[v]:=by
         rw[show off+(k+1)=(off+k)+1 by omega,List.take_add_one]
         simp[List.take_set,hlt]
         rw[List.set_eq_of_length_le (by simp;omega)]
        have e2:(arr.toList.set (off+k) v).drop (off+(k+1)+vs.length)=arr.toList.drop (off+k+(vs.length+1)):=by
         rw[List.drop_set,if_pos (by omega)]
         congr 1;omega
        rw[e1,e2];simp
      have hk:=key (a.eval x).cells.toList 0 cs' (by simp;omega)
      rw[←Array.foldl_toList]
      simpa[Array.toList_zipIdx]using hk
     rw[this]
     exact hput
    ·cases hf
end Go.Proofs.YtpbbjfighohokaaGreatI
