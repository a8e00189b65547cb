/- A layer of this session's own between the model and the proofs: an intermediate form of the code (sizes and zero values resolved), and what it does over a heap of ids, in which no order, no capacity and no block number is drawn. Definitions alone. / The intermediate form's making: a function that th -/
import Derived.Orders
import Derived.Tactics
import Derived.LaidEql
import Derived.Laws.StructEq
namespace Go.Proofs.YtofpmkhcbijilaaGreatDoorI
open Go
set_option linter.unusedSimpArgs false
set_option linter.unusedVariables false
def dQ:Nat:=9223372036854775808
inductive dU where
 |cells (cs:List Value) (ro:Bool)
 |map (es:List MapEntry) (clock:Nat)
 |iter (m:Option Nat) (since:Nat) (seen:List Nat) (last:Nat)
 |dead
 deriving Inhabited
def fo:Value→Bool
 | .agg _| .tuple _=>false
 |_=>true
structure aa where
 get:Nat→Option dU
 next:Nat
def aa.set (H:aa)(i:Nat)(o:dU):aa:={H with get:=fun j=>if j=i then some o else H.get j}
def aa.alloc (H:aa)(o:dU):aa:={get:=fun j=>if j=H.next then some o else H.get j,next:=H.next+1}
def aa.aT (H:aa)(b o n:Nat):Option (List Value):=
 match H.get b with
 |some (.cells cs _)=>if o+n≤cs.length then some ((cs.drop o).take n)else none
 |_=>none
def aa.aj (H:aa)(b o:Nat):Option Value:=
 match H.get b with
 |some (.cells cs _)=>cs[o]?
 |_=>none
def putAt (cs:List Value)(o:Nat)(vs:List Value):List Value:=cs.take o++vs++cs.drop (o+vs.length)
def aa.aK (H:aa)(b o:Nat)(vs:List Value):Option aa:=
 match H.get b with
 |some (.cells cs false)=>if o+vs.length≤cs.length∧vs.all fo=true then some (H.set b (.cells (putAt cs o vs) false))else none
 |_=>none
abbrev Env:=Nat→Value
def Env.put (T:Env)(d:Option Nat)(v:Value):Env:=
 match d with
 |some d=>fun t=>if t=d then v else T t
 |none=>T
def ev (T:Env):Operand→Value
 | .tmp t=>T t
 | .const v=>v
 | .global g=>.pointer (some ⟨g,0,none⟩)
 | .func f=>.func (.func f) #[] #[]
def aD {α:Type}(P:Program):Sem α→Option α
 | .pure a=>some a
 | .program k=>aD P (k P)
 | .mark _ k=>aD P k
 |_=>none
def l9:Value→Bool
 | .bool _| .int _ _| .float _ _| .complex _ _ _| .string _=>true
 |_=>false
def nL:Value→Bool
 | .agg cs=>cs.toList.all l9
 |v=>l9 v
inductive KS where
 |b
 |i (k:IntKind)
 |s
 deriving DecidableEq
inductive bO where
 |raw (o:Op) (ty:TypeId)
 |move (x:Operand)
 |pick (c a b:Operand)
 |alloc (cells:List Value)
 |box (x:Operand)
 |build (zero:List Value) (parts:List ((Nat×Nat)×Operand))
 |buildSlice (len:Nat) (zero:List Value) (parts:List ((Nat×Nat)×Operand))
 |aj (a:Operand)
 |aL (n:Nat) (a:Operand)
 |store (n:Nat) (a x:Operand)
 |nilCheck (x:Operand)
 |aJ (kd:Nat) (neg:Bool) (x:Operand)
 |bq (t:TypeId) (x:Operand)
 |aV (f:FuncId) (first captured:List Operand)
 |mkMap
 |mkSlice (bytes:Nat) (zero:List Value) (l c:Operand)
 |Kj (x:Operand)
 |cZ (x:Operand)
 |aC (size:Nat) (x:Operand) (lo hi mx:Option Operand)
 |qJ (n size:Nat) (x:Operand) (lo hi mx:Option Operand)
 |fieldAddr (off:Nat) (x:Operand)
 |GZ (off:Nat) (x:Operand)
 |Vb (off n:Nat) (x:Operand)
 |bY (size:Nat) (x i:Operand)
 |dY (len size:Nat) (x i:Operand)
 |I6 (len:Nat) (x i:Operand)
 |rO (len size:Nat) (x i:Operand)
 |bM (x:Operand)
 |G6 (x:Operand)
 |Fv (x:Operand)
 |extract (x:Operand) (i:Nat)
 |gJ (t:TypeId) (zero:Value) (ok:Bool) (x:Operand)
 |lookup (kt:TypeId) (zero:Value) (ok:Bool) (m k:Operand)
 |mapUpdate (kt:TypeId) (m k v:Operand)
 |delete (kt:TypeId) (m k:Operand)
 |rP (zero:List Value) (x:Operand)
 |copy (size:Nat) (d s:Operand)
 |append (size bytes:Nat) (s x:Operand)
 |eG (s x:Operand)
 |mD (bytes:Nat) (zero:List Value) (s n:Operand)
 |call (f:FuncId) (args:List Operand)
 |aZ (f:Operand) (args:List Operand)
 |bin (op:BinOp) (x y:Operand)
 |eqv (neg:Bool) (sh:List KS) (x y:Operand)
 |un (op:UnOp) (x:Operand)
 |conv (k:IntKind) (x:Operand)
 |ay (x:Operand)
 |rQ (mx:Bool) (x y:Operand)
 |dL (x i:Operand)
 |bX (x:Operand) (lo hi:Option Operand)
 |rangeMap (x:Operand)
 |lC (x:Operand)
 |o6 (x:Operand)
 |jL (d s:Operand)
 |jQ (m:Operand)
 |invoke (Tp:List (TypeId×FuncId)) (x:Operand) (args:List Operand)
 |wX (x y:Operand)
 |never
 deriving Inhabited
structure aF where
 dst:Option Nat
 op:bO
 guard:Option (Nat×Bool)
 deriving Inhabited
inductive fP where
 |skip
 |ops (l:List aF)
 |draw (l:List (aF×List aF))
 |seq (a b:fP)
 |cond (c:Operand) (a b:fP)
 |block (id:Nat) (a:fP)
 |loop (a:fP)
 |exit (id:Nat)
 |ret
 deriving Inhabited
def ak (l:List UInt8):Value:=.string ⟨l.toArray⟩
def kU (op:BinOp)(k:IntKind)(a b:Int):Option Value:=
 match op with
 | .add=>some (.int k (k.wrap (a+b)))
 | .sub=>some (.int k (k.wrap (a-b)))
 | .mul=>some (.int k (k.wrap (a*b)))
 | .quo=>if b=0 then none else some (.int k (k.wrap (a.tdiv b)))
 | .rem=>if b=0 then none else some (.int k (a.tmod b))
 | .and=>some (.int k (k.wrap (BitVec.ofInt k.bits a &&& BitVec.ofInt k.bits b).toNat))
 | .or=>some (.int k (k.wrap (BitVec.ofInt k.bits a ||| BitVec.ofInt k.bits b).toNat))
 | .xor=>some (.int k (k.wrap (BitVec.ofInt k.bits a ^^^ BitVec.ofInt k.bits b).toNat))
 | .andNot=>some (.int k (k.wrap (BitVec.ofInt k.bits a &&& ~~~ BitVec.ofInt k.bits b).toNat))
 | .eql=>some (.bool (decide (a=b)))
 | .neq=>some (.bool (decide (a≠b)))
 | .lss=>some (.bool (decide (a<b)))
 | .leq=>some (.bool (decide (a≤b)))
 | .gtr=>some (.bool (decide (b<a)))
 | .geq=>some (.bool (decide (b≤a)))
 |_=>none
def O3 (op:BinOp)(k:IntKind)(a b:Int):Option Value:=
 if b<0 then none
 else match op with
  | .shl=>some (.int k (k.wrap (a*2 ^ min b.toNat k.bits)))
  | .shr=>some (.int k (a.fdiv (2 ^ min b.toNat k.bits)))
  |_=>none
def jI (op:BinOp)(a b:List UInt8):Option Value:=
 match op with
 | .add=>if ((a.length+b.length:Nat):Int)>IntKind.i64.max then none else some (ak (a++b))
 | .eql=>some (.bool (decide (a=b)))
 | .neq=>some (.bool (decide (a≠b)))
 | .lss=>some (.bool (Op.bytesLess a b))
 | .leq=>some (.bool (Op.bytesLess a b||decide (a=b)))
 | .gtr=>some (.bool (!(Op.bytesLess a b||decide (a=b))))
 | .geq=>some (.bool (!Op.bytesLess a b))
 |_=>none
def fq (op:BinOp)(x y:Value):Option Value:=
 match x,y with
 | .int k a,.int k' b=>match op with
   | .shl| .shr=>O3 op k a b
   |_=>if k=k' then kU op k a b else none
 | .string a,.string b=>jI op a.data.toList b.data.toList
 |_,_=>none
def sP (op:UnOp)(x:Value):Option Value:=
 match op,x with
 | .not,.bool b=>some (.bool !b)
 | .neg,.int k n=>some (.int k (k.wrap (0-n)))
 | .xor,.int k n=>kU .xor k (if k.signed then -1 else k.max) n
 |_,_=>none
def bS:List KS→List Value→Bool
 |[],[]=>true
 | .b::sh,.bool _::l=>bS sh l
 | .i k::sh,.int k' _::l=>decide (k=k')&&bS sh l
 | .s::sh,.string _::l=>bS sh l
 |_,_=>false
def qm:Value→Value→Bool
 | .bool a,.bool b=>a == b
 | .int _ a,.int _ b=>decide (a=b)
 | .string a,.string b=>decide (a=b)
 |_,_=>false
def kF:List Value→List Value→Bool
 |[],[]=>true
 |a::x,b::y=>qm a b&&kF x y
 |_,_=>false
def bZ (cs:List Value):List ((Nat×Nat)×Value)→Option (List Value)
 |[]=>some cs
 |((off,size),v)::r=>if v.cells.size=size∧off+v.cells.size≤cs.length then bZ (putAt cs off v.cells.toList) r else none
def gQ:List Value→Option (List UInt8)
 |[]=>some []
 | .int .u8 n::r=>(gQ r).map (UInt8.ofNat n.toNat :: ·)
 |_=>none
def aU:Nat→Value→Option Bool
 |0,.pointer a=>some a.isNone
 |1,.slice a _ _=>some a.isNone
 |2,.map r=>some r.isNone
 |3,.func .. =>some false
 |3,.nilFunc=>some true
 |4,.iface .. =>some false
 |4,.nilIface=>some true
 |_,_=>none
def gK (T:Env)(x:Operand):Option Nat:=
 match ev T x with
 | .int _ i=>if 0≤i then some i.toNat else none
 |_=>none
def bH (T:Env)(len:Nat)(lo hi mx:Option Operand):Option (Nat×Nat×Option Nat):=
 match (match mx with|some v=>(gK T v).map some|none=>some none),(match hi with|some v=>gK T v|none=>if mx.isSome then none else some len),(match lo with|some v=>gK T v|none=>some 0)with
 |some m,some h,some l=>if l≤h∧h≤m.getD h then some (l,h,m)else none
 |_,_,_=>none
def tN (H:aa)(b k:Nat):Bool:=
 match H.get b with
 |some (.cells cs _)=>decide (k≤cs.length)
 |_=>false
def bK (H:aa)(size:Nat)(a:Option Addr)(len cap l h:Nat)(m:Option Nat):Option Value:=
 if cap<dQ then
  if h≤m.getD cap∧m.getD cap≤cap then some (.slice (if m.getD cap=l then a else a.map (·.add (l*size))) (h-l) (m.getD cap-l))else none
 else match a with
  |some ⟨b,o,none⟩=>
   if cap=dQ+size∧0<size∧(m.getD h≤len∨tN H b (o+m.getD h*size)=true)then
    match m with
    |none=>some (.slice (some ⟨b,o+l*size,none⟩) (h-l) cap)
    |some x=>if x<dQ then some (.slice (some (if x=l then ⟨b,o,none⟩else ⟨b,o+l*size,none⟩)) (h-l) (x-l))else none
   else none
  |_=>none
def mE (P:Program)(kt:TypeId)(k:Value):List MapEntry→Nat→Option (Option Nat)
 |[],_=>some none
 |e::es,i=>
  match aD P (Op.equal kt k e.key)with
  |some true=>some (some i)
  |some false=>mE P kt k es (i+1)
  |none=>none
def tO (P:Program)(kt:TypeId)(k:Value)(es:List MapEntry):Bool:=
 nL k&&es.all (fun e=>nL e.key)&&(aD P (Instr.checkKey es.isEmpty 10000 kt k)).isSome&&(aD P (Instr.checkKey false 10000 kt k)).isSome
def mF (H:aa):Value→Option (List MapEntry)
 | .map none=>some []
 | .map (some r)=>match H.get r with
   |some (.map es _)=>some es
   |_=>none
 |_=>none
def O4 (H:aa)(b o:Nat):Bool:=match H.get b with
 |some (.cells cs false)=>decide (o≤cs.length)
 |_=>false
def ptrEq (H:aa):Value→Value→Option Bool
 | .pointer (some ⟨b,o,none⟩),.pointer (some ⟨b',o',none⟩)=>if b=b' then some (decide (o=o'))else if (O4 H b o&&O4 H b' o')=true then some false else none
 |_,_=>none
def X9 (P:Program)(t:TypeId):Bool:=match P.underlying t with
 |some (.struct fs)=>match fs.toList with
  |[f,g]=>match P.underlying f.type,P.underlying g.type with
   |some (.pointer e),some .string=>decide (f.name ≠ "_")&&decide (g.name ≠ "_")&&decide (f.offset=0)&&decide (g.offset=1)&&(match P.info? e with|some i=>decide (i.size≠0)|none=>false) && !P.stoodInHeld t && !P.eqGuardType P.depth t
   |_,_=>false
  |_=>false
 |_=>false
def uQ (H:aa)(x y:Value):Option Value:=match x,y with
 | .agg cs,.agg ds=>match cs.toList,ds.toList with
   |[p,.string s],[q,.string u]=>(ptrEq H p q).map fun r=>.bool (r&&decide (s=u))
   |_,_=>none
 |_,_=>none
def bB (P:Program)(T:Env)(H:aa):bO→Option Value
 | .raw o ty=>
   if o.operands.toList.all (fun x=>nL (ev T x))=true then
    match aD P (execOp (ev T) ⟨none,o,ty, "",#[],none⟩)with
    |some (.value v)=>if nL v=true then some v else none
    |_=>none
   else none
 | .move x=>some (ev T x)
 | .pick c a b=>match ev T c with
   | .bool t=>some (bif t then ev T a else ev T b)
   |_=>none
 | .build zero parts=>(bZ zero (parts.map fun p=>(p.1,ev T p.2))).map fun l=>.agg l.toArray
 | .nilCheck x=>match ev T x with
   | .pointer (some a)=>some (.pointer (some a))
   | .iface t v=>some (.iface t v)
   | .func (.func f) a b=>some (.func (.func f) a b)
   |_=>none
 | .aJ kd neg x=>(aU kd (ev T x)).map fun b=>.bool (b != neg)
 | .bq t x=>some (.iface t (ev T x))
 | .aV f first captured=>some (.func (.func f) (first.map (ev T)).toArray (captured.map (ev T)).toArray)
 | .fieldAddr off x=>match ev T x with
   | .pointer (some ⟨b,o,none⟩)=>some (.pointer (some ⟨b,o+off,none⟩))
   |_=>none
 | .GZ off x=>match ev T x with
   | .agg cs=>cs.toList[off]?
   |_=>none
 | .Vb off n x=>match ev T x with
   | .agg cs=>if off+n≤cs.toList.length then some (.agg ((cs.toList.drop off).take n).toArray)else none
   |_=>none
 | .bY size x i=>match ev T x,ev T i with
   | .slice (some ⟨b,o,none⟩) len _,.int _ i=>if 0≤i∧i<(len:Int)then some (.pointer (some ⟨b,o+i.toNat*size,none⟩))else none
   |_,_=>none
 | .dY len size x i=>match ev T x,ev T i with
   | .pointer (some ⟨b,o,none⟩),.int _ i=>if 0≤i∧i<(len:Int)then some (.pointer (some ⟨b,o+i.toNat*size,none⟩))else none
   |_,_=>none
 | .I6 len x i=>match ev T x,ev T i with
   | .agg cs,.int _ i=>if 0≤i∧i<(len:Int)then cs.toList[i.toNat]? else none
   |_,_=>none
 | .rO len size x i=>match ev T x,ev T i with
   | .agg cs,.int _ i=>if 0≤i∧i<(len:Int)∧i.toNat*size+size≤cs.toList.length then some (.agg ((cs.toList.drop (i.toNat*size)).take size).toArray)else none
   |_,_=>none
 | .bM x=>match ev T x with
   | .slice _ len _=>some (.int .i64 len)
   |_=>none
 | .G6 x=>match ev T x with
   | .slice _ _ c=>if c<dQ then some (.int .i64 c)else none
   |_=>none
 | .extract x i=>match ev T x with
   | .tuple vs=>vs.toList[i]?
   |_=>none
 | .gJ t zero ok x=>match ev T x with
   | .iface t' v=>if t'=t then some (if ok then .tuple #[v,.bool true]else v)else if ok then some (.tuple #[zero,.bool false])else none
   | .nilIface=>if ok then some (.tuple #[zero,.bool false])else none
   |_=>none
 | .aC size x lo hi mx=>match ev T x with
   | .slice a len cap=>match bH T len lo hi mx with
     |some (l,h,m)=>bK H size a len cap l h m
     |none=>none
   |_=>none
 | .qJ n size x lo hi mx=>match ev T x with
   | .pointer (some ⟨b,o,none⟩)=>match bH T n lo hi mx with
     |some (l,h,m)=>if n<dQ then bK H size (some ⟨b,o,none⟩) n n l h m else none
     |none=>none
   |_=>none
 | .aj a=>match ev T a with
   | .pointer (some ⟨b,o,none⟩)=>H.aj b o
   |_=>none
 | .aL n a=>match ev T a with
   | .pointer (some ⟨b,o,none⟩)=>(H.aT b o n).map fun l=>.agg l.toArray
   |_=>none
 | .cZ x=>match ev T x with
   | .slice none _ _=>some (.string .empty)
   | .slice (some ⟨b,o,none⟩) len _=>((H.aT b o len).bind gQ).map fun l=>.string ⟨l.toArray⟩
   |_=>none
 | .Fv x=>match ev T x with
   | .map none=>some (.int .i64 0)
   | .map (some r)=>match H.get r with
     |some (.map es _)=>some (.int .i64 es.length)
     |_=>none
   |_=>none
 | .lookup kt zero ok m k=>
   match mF H (ev T m)with
   |some es=>
    if tO P kt (ev T k) es=true then
     match mE P kt (ev T k) es 0 with
     |some (some i)=>match es[i]? with
      |some e=>some (if ok then .tuple #[e.val,.bool true]else e.val)
      |none=>none
     |some none=>some (if ok then .tuple #[zero,.bool false]else zero)
     |none=>none
    else none
   |none=>none
 | .bin op x y=>fq op (ev T x) (ev T y)
 | .eqv neg sh x y=>match ev T x,ev T y with
   | .agg a,.agg b=>if sh≠[]∧bS sh a.toList=true∧bS sh b.toList=true then some (.bool (kF a.toList b.toList != neg))else none
   | .bool a,.bool b=>if sh=[]then some (.bool ((a == b) != neg))else none
   |_,_=>none
 | .un op x=>sP op (ev T x)
 | .conv k x=>match ev T x with
   | .int _ n=>some (.int k (k.wrap n))
   |_=>none
 | .ay x=>match ev T x with
   | .string s=>some (.int .i64 s.data.toList.length)
   |_=>none
 | .rQ mx x y=>match ev T x,ev T y with
   | .int k a,.int _ b=>some (.int k (if mx then (if b>a then b else a)else (if b<a then b else a)))
   |_,_=>none
 | .dL x i=>match ev T x,ev T i with
   | .string s,.int _ i=>if 0≤i then (s.data.toList[i.toNat]?).map fun b=>.int .u8 b.toNat else none
   |_,_=>none
 | .bX x lo hi=>match ev T x with
   | .string s=>match bH T s.data.toList.length lo hi none with
     |some (l,h,_)=>if h≤s.data.toList.length then some (ak ((s.data.toList.drop l).take (h-l)))else none
     |none=>none
   |_=>none
 | .never=>none
 | .wX x y=>uQ H (ev T x) (ev T y)
 |_=>none
def j3 (T:Env):bO→Option (dU×(Nat→Value))
 | .alloc cells=>some (.cells cells false,fun r=>.pointer (some ⟨r,0,none⟩))
 | .box x=>some (.cells (ev T x).cells.toList false,fun r=>.pointer (some ⟨r,0,none⟩))
 | .buildSlice len zero parts=>(bZ zero (parts.map fun p=>(p.1,ev T p.2))).map fun l=>(.cells l false,fun r=>.slice (some ⟨r,0,none⟩) len len)
 | .mkMap=>some (.map [] 0,fun r=>.map (some r))
 | .mkSlice bytes zero l c=>match ev T l,ev T c with
   | .int _ l,.int _ c=>
     if 0≤l∧l≤c∧c≤17592186044416∧c*bytes≤17592186044416 then
      some (.cells ((Array.range (c.toNat*zero.length)).map (zero.toArray[· % zero.toArray.size]!)).toList false,fun r=>.slice (some ⟨r,0,none⟩) l.toNat c.toNat)
     else none
   |_,_=>none
 |_=>none
def aY (H:aa)(size n:Nat):Value→Option (List Value)
 | .slice none _ _=>some []
 | .slice (some ⟨b,o,none⟩) _ _=>if n*size=0 then some []else H.aT b o (n*size)
 |_=>none
def bQ (H:aa)(size bytes:Nat)(s:Value)(n:Nat)(news:List Value):Option (Value×aa):=
 match s with
 | .slice a len cap=>
   if (len+n)*bytes≤140737488355328∧len+n≤140737488355328∧0<bytes∧0<size∧news.length=n*size then
    if n=0 then (if len≤cap then some (.slice a len cap,H)else none)
    else match a with
     |none=>if len=0∧cap=0 then some (.slice (some ⟨H.next,0,none⟩) n (dQ+size),H.alloc (.cells news false))else none
     |some ⟨b,o,none⟩=>
      if cap<dQ∧len+n≤cap then
       (H.aK b (o+len*size) news).map fun H'=>(.slice (some ⟨b,o,none⟩) (len+n) cap,H')
      else match aY H size len s with
       |some old=>
        if cap<dQ then
         some (.slice (some ⟨H.next,0,none⟩) (len+n) (dQ+size),H.alloc (.cells (old++news) false))
        else if cap=dQ+size then
         match H.get b with
         |some (.cells cs false)=>
          if news.all fo=true then
           if o+(len+n)*size≤cs.length then
            some (.slice (some ⟨b,o,none⟩) (len+n) cap,H.set b (.cells (putAt cs (o+len*size) news) false))
           else if o≤cs.length then
            some (.slice (some ⟨H.next,0,none⟩) (len+n) (dQ+size),(H.set b .dead).alloc (.cells (old++news) false))
           else none
          else none
         |_=>none
        else none
       |none=>none
     |_=>none
   else none
 |_=>none
def iN:Value→Option Nat
 | .slice _ n _=>some n
 |_=>none
def fQ (P:Program)(T:Env)(H:aa):bO→Option (Value×aa)
 | .store n a x=>match ev T a with
   | .pointer (some ⟨b,o,none⟩)=>if (ev T x).cells.toList.length=n then (H.aK b o (ev T x).cells.toList).map fun H'=>(undef,H')else none
   |_=>none
 | .append size bytes s x=>match iN (ev T x)with
   |some n=>(aY H size n (ev T x)).bind fun news=>bQ H size bytes (ev T s) n news
   |none=>none
 | .eG s x=>match ev T x with
   | .string t=>bQ H 1 1 (ev T s) t.size (t.data.toList.map fun b=>.int .u8 b.toNat)
   |_=>none
 | .mD bytes zero s n=>match ev T n with
   | .int _ k=>if 0≤k∧k*bytes≤17592186044416∧k≤17592186044416 then bQ H zero.length bytes (ev T s) k.toNat (Builtin.zeroCells zero.toArray k.toNat).toList else none
   |_=>none
 | .copy size d s=>match ev T d,iN (ev T s)with
   | .slice a dl _,some sl=>
     (aY H size (Nat.min sl dl) (ev T s)).bind fun cs=>
       if cs.length=0 then some (.int .i64 (Nat.min sl dl),H)else
       match a with
       |some ⟨b,o,none⟩=>(H.aK b o cs).map fun H'=>(.int .i64 (Nat.min sl dl),H')
       |_=>none
   |_,_=>none
 | .rP zero x=>match ev T x with
   | .slice none _ _=>some (.tuple #[],H)
   | .slice (some ⟨b,o,none⟩) n _=>
     if n=0 then some (.tuple #[],H)else (H.aK b o (Builtin.zeroCells zero.toArray n).toList).map fun H'=>(.tuple #[],H')
   |_=>none
 | .mapUpdate kt m k v=>match ev T m with
   | .map (some r)=>match H.get r with
     |some (.map es clock)=>
      if tO P kt (ev T k) es=true then
       match mE P kt (ev T k) es 0 with
       |some (some i)=>
        if Instr.sameBits 10000 (((es[i]?).map (·.key)).getD (ev T k)) (ev T k)=true then
         some (undef,H.set r (.map (es.modify i fun e=>{e with key:=ev T k,val:=ev T v}) clock))else none
       |some none=>some (undef,H.set r (.map (es++[{key:=ev T k,val:=ev T v,born:=clock}]) (clock+1)))
       |none=>none
      else none
     |_=>none
   |_=>none
 | .delete kt m k=>match ev T m with
   | .map (some r)=>match H.get r with
     |some (.map es clock)=>
      if tO P kt (ev T k) es=true then
       match mE P kt (ev T k) es 0 with
       |some (some i)=>some (.tuple #[],H.set r (.map (es.eraseIdx i) clock))
       |some none=>some (.tuple #[],H.set r (.map es clock))
       |none=>none
      else none
     |_=>none
   |_=>none
 | .jL d s=>match ev T d,ev T s with
   | .slice a dl _,.string t=>
     if Nat.min t.size dl=0 then some (.int .i64 (Nat.min t.size dl),H)else
     match a with
     |some ⟨b,o,none⟩=>(H.aK b o ((t.data.toList.take (Nat.min t.size dl)).map fun b=>.int .u8 b.toNat)).map fun H'=>(.int .i64 (Nat.min t.size dl),H')
     |_=>none
   |_,_=>none
 | .jQ m=>match ev T m with
   | .map none=>some (.tuple #[],H)
   | .map (some r)=>match H.get r with
     |some (.map _ clock)=>some (.tuple #[],H.set r (.map [] clock))
     |_=>none
   |_=>none
 |_=>none
inductive Za where
 |rd|al|ac|ca
 deriving DecidableEq
def bO.kind:bO→Za
 | .alloc _| .box _| .buildSlice .. | .Kj _| .mkMap| .mkSlice .. =>.al
 | .store .. | .append .. | .eG .. | .mD .. | .copy .. | .rP .. | .mapUpdate .. | .delete .. | .jL .. | .jQ _=>.ac
 | .call .. | .aZ .. | .rangeMap _| .lC _| .o6 _| .invoke .. =>.ca
 |_=>.rd
def bO.looks:bO→Bool
 | .aj _| .aL .. | .cZ _| .Fv _| .lookup .. | .aC .. | .wX .. =>true
 |_=>false
def uR (H:aa)(K:Value→aa→Prop):Value→Prop
 | .map none=>K (.pointer (some ⟨H.next,0,none⟩)) (H.alloc (.iter none 0 [] 0))
 | .map (some r)=>match H.get r with
   |some (.map _ clock)=>K (.pointer (some ⟨H.next,0,none⟩)) (H.alloc (.iter (some r) clock [] clock))
   |_=>False
 |_=>False
def kG (H:aa)(K:Value→aa→Prop):Value→Prop
 | .pointer (some ⟨r,0,none⟩)=>match H.get r with
   |some (.iter none _ _ _)=>K (.tuple #[.bool false]) H
   |some (.iter (some m) since seen last)=>match H.get m with
    |some (.map es clock)=>(seen=[]∨es=[]∨∃e ∈ es,e.born<last)∧((∀e ∈ es,e.born ∉ seen→since≤e.born)→K (.tuple #[.bool false]) H) ∧
      ∀e ∈ es,e.born ∉ seen→K (.tuple #[.bool true,e.key,e.val]) (H.set r (.iter (some m) since (seen++[e.born]) clock))
    |_=>False
   |_=>False
 |_=>False
def sS (H:aa)(K:Value→aa→Prop):Value→Prop
 | .pointer (some ⟨r,0,none⟩)=>match H.get r with
   |some (.iter (some m) _ seen last)=>match H.get m with
    |some (.map es clock)=>clock=last∧∃pre s,seen=pre++[s]∧∃e,es.find? (fun e=>e.born == s)=some e∧K (.tuple #[e.key,e.val]) H
    |_=>False
   |_=>False
 |_=>False
abbrev bu:=FuncId→List Value→aa→(Value→aa→Prop)→Prop
def jM (C:bu)(T:Env)(H:aa)(K:Value→aa→Prop):bO→Prop
 | .call f args=>C f (args.map (ev T)) H K
 | .aZ f args=>match ev T f with
   | .func (.func g) first captured=>C g (first.toList++args.map (ev T)++captured.toList) H K
   |_=>False
 | .rangeMap x=>uR H K (ev T x)
 | .lC x=>kG H K (ev T x)
 | .o6 x=>sS H K (ev T x)
 | .invoke Tp x args=>match ev T x with
   | .iface t v=>match Tp.find? fun p=>p.1 == t with
     |some p=>C p.2 (v::args.map (ev T)) H K
     |none=>False
   |_=>False
 |_=>False
def Dq (P:Program)(C:bu)(T:Env)(H:aa)(o:bO)(K:Value→aa→Prop):Prop:=
 match o.kind with
 | .rd=> ∃v,bB P T H o=some v∧K v H
 | .al=> ∃r,j3 T o=some r∧K (r.2 H.next) (H.alloc r.1)
 | .ac=> ∃r,fQ P T H o=some r∧K r.1 r.2
 | .ca=>jM C T H K o
def bV (T:Env):Option (Nat×Bool)→Bool
 |none=>true
 |some (d,want)=>match T d with
  | .bool b=>b == want
  |_=>false
def fu (P:Program)(C:bu):List aF→(Env→aa→Prop)→Env→aa→Prop
 |[],K,T,H=>K T H
 |o::os,K,T,H=>
  match bV T o.guard with
  |true=>Dq P C T H o.op fun v H'=>fu P C os K (T.put o.dst v) H'
  |false=>fu P C os K (T.put o.dst undef) H
def bE (P:Program)(T:Env)(H:aa)(o:aF):Prop:=
 match bV T o.guard,o.dst with
 |true,some d=>bB P T H o.op=some (T d)
 |true,none=>(bB P T H o.op).isSome
 |false,_=>True
def dh (P:Program)(T:Env)(H:aa):List aF→Prop
 |[]=>True
 |[o]=>bE P T H o
 |o::os=>bE P T H o∧dh P T H os
def bP (P:Program)(C:bu):List (aF×List aF)→(Env→aa→Prop)→Env→aa→Prop
 |[],K,T,H=>K T H
 |(o,st)::os,K,T,H=>
  match bV T o.guard with
  |true=>Dq P C T H o.op fun v H'=>
    match st with
    |[]=>bP P C os K (T.put o.dst v) H'
    |_=>dh P (T.put o.dst v) H' st∧bP P C os K (T.put o.dst v) H'
  |false=>bP P C os K (T.put o.dst undef) H
def Kk (N:Env→aa→Prop)(Q:Exit→Env→aa→Prop):Exit→Env→aa→Prop
 | .normal,T,H=>N T H
 |e,T,H=>Q e T H
def wY (id:Nat)(Q:Exit→Env→aa→Prop):Exit→Env→aa→Prop
 | .exit id',T,H=>if id'=id then Q .normal T H else Q (.exit id') T H
 |e,T,H=>Q e T H
def qeU (B:(Exit→Env→aa→Prop)→Env→aa→Prop)(Q:Exit→Env→aa→Prop)(T:Env)(H:aa):Prop:=
 ∀X:Env→aa→Prop,(∀T H,B (Kk X Q) T H→X T H)→X T H
def wz (P:Program)(C:bu):fP→(Exit→Env→aa→Prop)→Env→aa→Prop
 | .skip,Q,T,H=>Q .normal T H
 | .ops l,Q,T,H=>fu P C l (Q .normal) T H
 | .draw l,Q,T,H=>bP P C l (Q .normal) T H
 | .seq a b,Q,T,H=>wz P C a (Kk (wz P C b Q) Q) T H
 | .cond c a b,Q,T,H=>match ev T c with
   | .bool true=>wz P C a Q T H
   | .bool false=>wz P C b Q T H
   |_=>False
 | .block id a,Q,T,H=>wz P C a (wY id Q) T H
 | .loop a,Q,T,H=>qeU (wz P C a) Q T H
 | .exit id,Q,T,H=>Q (.exit id) T H
 | .ret,Q,T,H=>Q .ret T H
inductive wC where
 |tmp (t:Nat)
 |cell1 (a:Nat)
 |tQ (a n:Nat)
 deriving Inhabited
structure ah where
 ntmps:Nat
 results:List wC
 body:fP
 deriving Inhabited
def dI (T:Env)(H:aa):wC→Option Value
 | .tmp t=>some (T t)
 | .cell1 a=>match T a with
   | .pointer (some ⟨b,o,none⟩)=>H.aj b o
   |_=>none
 | .tQ a n=>match T a with
   | .pointer (some ⟨b,o,none⟩)=>(H.aT b o n).map fun l=>.agg l.toArray
   |_=>none
def di (T:Env)(H:aa):List wC→Option (List Value)
 |[]=>some []
 |r::rs=>match dI T H r with
  |some v=>(di T H rs).map (v :: ·)
  |none=>none
def gy (T:Env)(H:aa)(rs:List wC):Option Value:=
 match di T H rs with
 |some [v]=>some v
 |some l=>some (.tuple l.toArray)
 |none=>none
def Dr (args:List Value):Env:=fun t=>args.getD t undef
def Dt (g:ah)(K:Value→aa→Prop):Exit→Env→aa→Prop
 | .ret,T,H| .normal,T,H=> ∃r,gy T H g.results=some r∧K r H
 |_,_,_=>False
def Du (P:Program)(C:bu)(g:ah)(args:List Value)(H:aa)(K:Value→aa→Prop):Prop:=
 args.length≤g.ntmps∧wz P C g.body (Dt g K) (Dr args) H
def eH (P:Program)(IP:FuncId→Option ah)(X:bu)(f:FuncId)(args:List Value)(H:aa)(K:Value→aa→Prop):Prop:=
 ∀Y:bu,(∀f args H K,(X f args H K∨∃g,IP f=some g∧Du P Y g args H K)→Y f args H K)→Y f args H K
def uS:Value→Bool
 | .pointer none| .map none| .nilFunc| .nilIface=>true
 | .slice none 0 0=>true
 | .tuple vs=>vs.toList.isEmpty
 |v=>l9 v
def qy:Value→Bool
 | .agg cs=>cs.toList.all uS
 |v=>uS v
def okO:Operand→Bool
 | .tmp _=>true
 | .const v=>qy v
 | .global _=>false
 | .func _=>true
def mG (l:List Operand):Bool:=l.all okO
def o7 (P:Program)(t:TypeId):Option Bool:=
 match P.underlying t with
 |some (.struct _)|some (.array _ _)=>some true
 |some _=>some false
 |none=>none
def bz (P:Program)(t:TypeId):Option Nat:=(P.info? t).map (·.size)
def wZ (P:Program)(t:TypeId):Option Nat:=(P.info? t).map (·.bytes)
def gz (P:Program)(t:TypeId):Option Value:=((P.info? t).bind (·.zero)).bind fun z=>if qy z then some z else none
def mH (P:Program):List Field→Option (List (Nat×Nat))
 |[]=>some []
 |f::fs=>do let s ←bz P f.type;let r ←mH P fs;pure ((f.offset,s)::r)
def fH (place:Nat→Option (Nat×Nat)):List (Nat×Operand)→Option (List ((Nat×Nat)×Operand))
 |[]=>some []
 |(i,x)::r=>do let p ←place i;let r ←fH place r;pure ((p,x)::r)
def Dv:TypeDesc→Value→Option Nat
 | .pointer _,.pointer none=>some 0
 | .slice _,.slice none 0 0=>some 1
 | .map _ _,.map none=>some 2
 | .func _ _ _,.nilFunc=>some 3
 | .interface _,.nilIface=>some 4
 |_,_=>none
def uT (P:Program)(o:Op)(ty:TypeId)(neg:Bool)(t:TypeId)(x y:Operand):bO:=
 match P.underlying t,x,y with
 |some d,x,.const v=>match Dv d v with
  |some k=>.aJ k neg x
  |none=>.raw o ty
 |_,_,_=>if X9 P t=true∧neg=false then .wX x y else .raw o ty
def jd (P:Program)(o:Op)(ty:TypeId)(b:Builtin)(nE:List TypeId)(args:List Operand):Option bO:=
 match b,nE,args with
 | .len,[t],[x]=>match P.underlying t with
   |some (.slice _)=>some (.bM x)
   |some (.map _ _)=>some (.Fv x)
   |some (.array n _)=>some (.move (.const (.int .i64 n)))
   |some (.pointer a)=>match P.underlying a with
    |some (.array n _)=>some (.move (.const (.int .i64 n)))
    |_=>none
   |_=>some (.raw o ty)
 | .cap,[t],[x]=>match P.underlying t with
   |some (.slice _)=>some (.G6 x)
   |_=>none
 | .append,[t,u],[s,x]=>match P.underlying t with
   |some (.slice e)=>match P.underlying u,bz P e,wZ P e,gz P e with
    |some (.slice _),some size,some bytes,some z=>if z.cells.size=size then some (.append size bytes s x)else none
    |some .string,some 1,some 1,some z=>if z.cells.size=1 then some (.eG s x)else none
    |some (.int _),some size,some bytes,some z=>if z.cells.size=size then some (.mD bytes z.cells.toList s x)else none
    |_,_,_,_=>none
   |_=>none
 | .copy,[t,u],[d,s]=>match P.underlying t,P.underlying u with
   |some (.slice e),some (.slice _)=>(bz P e).map fun size=>.copy size d s
   |_,_=>none
 | .clear,[t],[x]=>match P.underlying t with
   |some (.slice e)=>(gz P e).bind fun z=>if z.cells.size≠0 then some (.rP z.cells.toList x)else none
   |_=>none
 | .delete,[t,_],[m,k]=>match P.underlying t with
   |some (.map kt _)=>some (.delete kt m k)
   |_=>none
 | .append,_,_| .cap,_,_| .copy,_,_| .clear,_,_| .delete,_,_=>none
 |_,_,_=>some (.raw o ty)
def iR (P:Program)(o:Oper):Option bO:=
 if mG o.op.operands.toList=false then none else
 match o.op with
 | .select .. =>none
 | .move x| .assign x=>some (.move x)
 | .pick c a b=>some (.pick c a b)
 | .alloc t=>(gz P t).map fun z=>.alloc z.cells.toList
 | .box _ x=>some (.box x)
 | .build t parts=>match gz P t,P.underlying t with
   |some z,some (.struct fs)=>(mH P fs.toList).bind fun pl=>(fH (pl[·]?) parts.toList).map fun ps=>.build z.cells.toList ps
   |some z,some (.array _ e)=>(bz P e).bind fun s=>(fH (fun i=>some (i*s,s)) parts.toList).map fun ps=>.build z.cells.toList ps
   |_,_=>none
 | .buildSlice t len parts=>match P.underlying t with
   |some (.slice e)=>match bz P e,gz P e with
    |some s,some z=>if 0<s∧len*s≤2 ^ 24∧len<2 ^ 24 then
      (fH (fun i=>some (i*s,s)) parts.toList).map fun ps=>.buildSlice len ((Array.range (len*s)).map (z.cells[· % z.cells.size]!)).toList ps else none
    |_,_=>none
   |_=>none
 | .load t a=>match o7 P t,bz P t with
   |some true,some n=>some (.aL n a)
   |some false,some _=>some (.aj a)
   |_,_=>none
 | .store t a x=>(bz P t).map fun n=>.store n a x
 | .nilCheck x=>some (.nilCheck x)
 | .binOp op t x y _=>match op with
   | .eql=>some (uT P o.op o.type false t x y)
   | .neq=>some (uT P o.op o.type true t x y)
   |_=>some (.raw o.op o.type)
 | .convert s d x=>match P.underlying s,P.underlying d with
   |some .string,some (.slice e)=>match P.underlying e,bz P e with
    |some (.int .u8),some 1=>some (.Kj x)
    |_,_=>none
   |some (.slice e),some .string=>match P.underlying e with
    |some (.int .u8)=>some (.cZ x)
    |_=>none
   |_,_=>some (.raw o.op o.type)
 | .makeInterface t x=>match P.underlying t with
   |some (.interface _)=>none
   |some _=>some (.bq t x)
   |none=>none
 | .makeFunc (.func f) first captured=>some (.aV f first.toList captured.toList)
 | .makeMap _ none=>some .mkMap
 | .makeSlice t l c=>match P.underlying t with
   |some (.slice e)=>match bz P e,wZ P e,gz P e with
    |some s,some b,some z=>if 0<s∧z.cells.size=s then some (.mkSlice b z.cells.toList l c)else none
    |_,_,_=>none
   |_=>none
 | .slice t x lo hi mx=>match P.underlying t with
   |some (.slice e)=>(bz P e).bind fun s=>if 0<s then some (.aC s x lo hi mx)else none
   |some (.array n e)=>(bz P e).bind fun s=>if 0<s then some (.qJ n s x lo hi mx)else none
   |some .string=>some (.raw o.op o.type)
   |_=>none
 | .fieldAddr t x i=>match P.underlying t with
   |some (.struct fs)=>match fs.toList[i]? with
    |some f=>(bz P f.type).bind fun s=>if s=0 then none else some (.fieldAddr f.offset x)
    |none=>none
   |_=>none
 | .field t x i=>match P.underlying t with
   |some (.struct fs)=>match fs.toList[i]? with
    |some f=>match o7 P f.type,bz P f.type with
     |some true,some n=>some (.Vb f.offset n x)
     |some false,some _=>some (.GZ f.offset x)
     |_,_=>none
    |none=>none
   |_=>none
 | .indexAddr t x i=>match P.underlying t with
   |some (.slice e)=>(bz P e).map fun s=>.bY s x i
   |some (.array n e)=>if 1<n then (bz P e).map fun s=>.dY n s x i else none
   |_=>none
 | .index t x i=>match P.underlying t with
   |some .string=>some (.raw o.op o.type)
   |some (.array n e)=>match o7 P e,bz P e with
    |some true,some s=>some (.rO n s x i)
    |some false,some 1=>some (.I6 n x i)
    |_,_=>none
   |_=>none
 | .lookup t m k ok=>match P.underlying t with
   |some (.map kt e)=>(gz P e).map fun z=>.lookup kt z ok m k
   |_=>none
 | .mapUpdate t m k v| .insert t m k v=>match P.underlying t with
   |some (.map kt _)=>some (.mapUpdate kt m k v)
   |_=>none
 | .typeAssert x _ t ok=>match P.underlying t with
   |some (.interface _)=>none
   |some _=>(gz P t).map fun z=>.gJ t z ok x
   |none=>none
 | .extract x i=>some (.extract x i)
 | .range t x=>match P.underlying t with
   |some (.map _ _)=>some (.rangeMap x)
   |_=>none
 | .next it false=>some (.lC it)
 | .next _ true=>none
 | .entry it=>some (.o6 it)
 | .call c=>match c.callee with
   | .value (.func f)=>some (.call f c.args.toList)
   | .value x=>some (.aZ x c.args.toList)
   | .builtin b=>jd P o.op o.type b c.argTypes.toList c.args.toList
   | .invoke _ _=>none
 |_=>some (.raw o.op o.type)
def QW (P:Program)(name:String):List (TypeId×FuncId):=(List.range P.types.size).filterMap fun t=>
 match P.info? t with
 |some i=>match i.methods.find? (·.name == name)with
  |some m=>match m.path.toList,m.func,P.underlying t with
   |[],some (f,true),some (.pointer _)=>some (t,f)
   |[],some (_,false),some (.pointer _)=>none
   |[],some (f,false),some _=>some (t,f)
   |_,_,_=>none
  |none=>none
 |none=>none
def zS (P:Program)(o:Oper):bO:=
 if mG o.op.operands.toList=false then .never else
 match o.op with
 | .call c=>match c.callee,c.argTypes.toList,c.args.toList with
   | .builtin .copy,[t,u],[d,s]=>match P.underlying t,P.underlying u with
     |some (.slice e),some .string=>match bz P e with
      |some 1=>.jL d s
      |_=>.never
     |_,_=>.never
   | .builtin .clear,[t],[x]=>match P.underlying t with
     |some (.map _ _)=>.jQ x
     |_=>.never
   | .invoke recv name,_,args=>.invoke (QW P name) recv args
   |_,_,_=>.never
 |_=>.never
def sU (P:Program)(o:Oper):Option bO:=match iR P o with
 |some io=>some io
 |none=>some (zS P o)
def nM (ops:Array Oper):Option (Nat×Bool)→Option (Option (Nat×Bool))
 |none=>some none
 |some (j,want)=>match (ops[j]?).bind (·.dst)with
  |some d=>some (some (d,want))
  |none=>none
def ltO (n:Nat):Option Nat→Bool
 |some d=>decide (d<n)
 |none=>true
def ltG (n:Nat):Option (Nat×Bool)→Bool
 |some (d,_)=>decide (d<n)
 |none=>true
def qK (P:Program)(n:Nat)(ops:Array Oper)(o:Oper):Option aF:=
 match sU P o,nM ops o.guard with
 |some io,some g=>if (ltO n o.dst&&ltG n g)=true then some ⟨o.dst,io,g⟩else none
 |_,_=>none
def iG (P:Program)(n:Nat)(ops:Array Oper):List Oper→Option (List aF)
 |[]=>some []
 |o::os=>match qK P n ops o,iG P n ops os with
  |some x,some xs=>some (x::xs)
  |_,_=>none
def fF:List Oper→List Nat→List Nat
 |[],acc=>acc
 |o::os,acc=>fF os (acc++[o.after.toList.foldl (fun s e=>if Region.binds .any e then s ||| 2 ^ e.on ||| acc.getD e.on 0 else s) 0])
def iH:List Oper→Nat→Bool
 |[],_=>true
 |o::os,i=>o.after.toList.all (fun e=> !Region.binds .any e||decide (e.on<i))&&iH os (i+1)
def acts (o:aF):Bool:=o.op.kind == .ac||o.op.kind == .ca
def Kl (o:aF):Bool:=o.op.looks
def qeV (ops:List Oper)(xs:List aF)(done:List Nat):Option Nat:=
 let ready:=(List.range ops.length).filter fun i=> !done.contains i&&(match ops[i]? with|some o=>o.after.toList.all (fun e=> !Region.binds .any e||done.contains e.on)|none=>false)
 match ready.find? fun i=>(match xs[i]? with|some x=> !acts x|none=>false)with
 |some i=>some i
 |none=>ready.head?
def O5 (ops:List Oper)(xs:List aF):Nat→List Nat→List Nat
 |0,done=>done
 |k+1,done=>match qeV ops xs done with
  |some i=>O5 ops xs k (done++[i])
  |none=>done
def Ak (ops:Array Oper)(o:Oper):List Nat:=o.looksAt ops
def waits (Dm:List Nat)(i j:Nat):Bool:=(Dm.getD i 0).testBit j
def qL (xs:List aF)(i:Nat):Bool:=match xs[i]? with
 |some x=>acts x
 |none=>false
def O6 (xs:List aF)(i:Nat):Bool:=match xs[i]? with
 |some x=>Kl x
 |none=>false
def Km (xs:List aF)(Dm:List Nat):List Nat→List Nat→Bool
 |_,[]=>true
 |pre,i::r=>pre.all (fun j=>(!qL xs j||waits Dm i j) && !waits Dm j i)&&Km xs Dm (pre++[i]) r
def qde (ops:Array Oper)(xs:List aF)(Dm:List Nat):Bool:=
 (List.range ops.size).all fun i=>(List.range ops.size).all fun j=>i == j||match ops[i]?,ops[j]? with
   |some oi,some oj=>match oi.dst with
    |some d=>(oj.dst != some d)&&(!(Ak ops oj).contains d||waits Dm j i||(waits Dm i j && !O6 xs j))
    |none=>true
   |_,_=>false
def qdf (ops:Array Oper):Bool:=
 ops.toList.all fun o=>match o.dst with
  |some d=> !(Ak ops o).contains d
  |none=>true
def Tq (ops:Array Oper)(xs:List aF)(Dm:List Nat)(σ:List Nat):Bool:=
 iH ops.toList 0&&decide (σ.length=ops.size)&&decide (σ.Nodup)&&σ.all (fun i=>decide (i<ops.size))&&Km xs Dm [] σ&&qde ops xs Dm&&qdf ops
def Fw (xs:List aF)(Dm:List Nat)(ahead:List Nat)(i:Nat):List aF:=
 match xs[i]? with
 |some x=>if acts x then ahead.filterMap fun j=>match xs[j]? with
   |some y=>if Kl y && !waits Dm i j then some y else none
   |none=>none
  else []
 |none=>[]
def M8 (xs:List aF)(Dm:List Nat):List Nat→List Nat→List (aF×List aF)
 |_,[]=>[]
 |ahead,i::r=>match xs[i]? with
  |some x=>(x,Fw xs Dm ahead i)::M8 xs Dm (ahead++[i]) r
  |none=>[]
def Kn (P:Program)(n:Nat)(ops:Array Oper):Option (List (aF×List aF)):=
 match iG P n ops ops.toList with
 |some xs=>
  let Dm:=fF ops.toList []
  let σ:=O5 ops.toList xs ops.size []
  if Tq ops xs Dm σ then some (M8 xs Dm [] σ)else none
 |none=>none
def O7:fP:=.cond (.const (.tuple #[])) .skip .skip
def comp (P:Program)(n:Nat):Code→Option fP
 | .skip=>some .skip
 | .region _ ops false=>match iG P n ops ops.toList with
   |some l=>some (.ops l)
   |none=>some O7
 | .region _ ops true=>match Kn P n ops with
   |some l=>some (.draw l)
   |none=>some O7
 | .seq a b=>match comp P n a,comp P n b with
   |some x,some y=>some (.seq x y)
   |_,_=>none
 | .cond c a b=>if okO c then match comp P n a,comp P n b with
     |some x,some y=>some (.cond c x y)
     |_,_=>none
   else some O7
 | .block id a=>(comp P n a).map (.block id)
 | .loop a=>(comp P n a).map .loop
 | .exit id=>some (.exit id)
 | .ret=>some .ret
 | .scope a=>comp P n a
 | .label _=>some .skip
 |_=>some O7
def mI (P:Program):List ResultVar→Option (List wC)
 |[]=>some []
 | .tmp t::r=>(mI P r).map (.tmp t :: ·)
 | .cell a t::r=>match o7 P t,bz P t with
   |some true,some n=>(mI P r).map (.tQ a n :: ·)
   |some false,some _=>(mI P r).map (.cell1 a :: ·)
   |_,_=>none
def qM (P:Program)(f:FuncId):Option ah:=
 match P.funcs[f]? with
 |some fn=>match fn.body,(fn.name == "runtime.NumGoroutine")with
  |some c,false=>match comp P fn.ntmps c,mI P fn.results.toList with
   |some b,some r=>some ⟨fn.ntmps,r,b⟩
   |_,_=>none
  |_,_=>none
 |none=>none
structure Ren where
 dom:Nat→Prop
 blk:Nat→Nat
 base:Nat→Nat
 size:Nat→Nat
 len:Nat→Nat
mutual
inductive VR (R:Ren):Value→Value→Prop
 |bool (b):VR R (.bool b) (.bool b)
 |int (k n):VR R (.int k n) (.int k n)
 |float (k n):VR R (.float k n) (.float k n)
 |complex (k n m):VR R (.complex k n m) (.complex k n m)
 |string (s):VR R (.string s) (.string s)
 |Zb:VR R (.pointer none) (.pointer none)
 |ptr (b o):R.dom b→VR R (.pointer (some ⟨b,o,none⟩)) (.pointer (some ⟨R.blk b,R.base b+o,none⟩))
 |tT:VR R (.slice none 0 0) (.slice none 0 0)
 |gm (b o len c):R.dom b→c<dQ→VR R (.slice (some ⟨b,o,none⟩) len c) (.slice (some ⟨R.blk b,R.base b+o,none⟩) len c)
 |iT (b o len c e):R.dom b→0<e→len≤c→(e=1∨c<dQ)→R.len b≤o+c*e→R.base b+o+c*e≤R.size b →
   VR R (.slice (some ⟨b,o,none⟩) len (dQ+e)) (.slice (some ⟨R.blk b,R.base b+o,none⟩) len c)
 |jN (b o e a):R.dom b→0<e→R.len b≤o→VR R (.slice (some ⟨b,o,none⟩) 0 (dQ+e)) (.slice (some a) 0 0)
 |lI (b o a):R.dom b→VR R (.slice (some ⟨b,o,none⟩) 0 0) (.slice (some a) 0 0)
 |Zc:VR R (.map none) (.map none)
 |map (r):R.dom r→VR R (.map (some r)) (.map (some (R.blk r)))
 |nilFunc:VR R .nilFunc .nilFunc
 |func (f a b a' b'):eT R a.toList a'.toList→eT R b.toList b'.toList→VR R (.func (.func f) a b) (.func (.func f) a' b')
 |nilIface:VR R .nilIface .nilIface
 |iface (t v v'):VR R v v'→VR R (.iface t v) (.iface t v')
 |agg (a a'):eT R a.toList a'.toList→VR R (.agg a) (.agg a')
 |tuple (a a'):eT R a.toList a'.toList→VR R (.tuple a) (.tuple a')
 |any (v):fo v=true→(∀b,v ≠ .bool b)→VR R (.chan none) v
inductive eT (R:Ren):List Value→List Value→Prop
 |nil:eT R [] []
 |cons {v v' l l'}:VR R v v'→eT R l l'→eT R (v::l) (v'::l')
end
structure Ren.le (R R':Ren):Prop where
 dom: ∀b,R.dom b→R'.dom b
 blk: ∀b,R.dom b→R'.blk b=R.blk b
 base: ∀b,R.dom b→R'.base b=R.base b
 size: ∀b,R.dom b→R'.size b=R.size b
 len: ∀b,R.dom b→R'.len b=R.len b
theorem Ren.le_refl (R:Ren):R.le R:=⟨fun _ h=>h,fun _ _=>rfl,fun _ _=>rfl,fun _ _=>rfl,fun _ _=>rfl⟩
theorem Ren.le.trans {A B C:Ren}(h:A.le B)(k:B.le C):A.le C:=
 ⟨fun b hb=>k.dom b (h.dom b hb),fun b hb=>(k.blk b (h.dom b hb)).trans (h.blk b hb),fun b hb=>(k.base b (h.dom b hb)).trans (h.base b hb),
  fun b hb=>(k.size b (h.dom b hb)).trans (h.size b hb),fun b hb=>(k.len b (h.dom b hb)).trans (h.len b hb)⟩
mutual
theorem VR.mono {R R':Ren}(h:R.le R'): ∀{v v':Value},VR R v v'→VR R' v v'
 |_,_,.bool b=>.bool b
 |_,_,.int k n=>.int k n
 |_,_,.float k n=>.float k n
 |_,_,.complex k n m=>.complex k n m
 |_,_,.string s=>.string s
 |_,_,.Zb=>.Zb
 |_,_,.ptr b o hb=>by rw[←h.blk b hb,←h.base b hb];exact .ptr b o (h.dom b hb)
 |_,_,.tT=>.tT
 |_,_,.gm b o len c hb hc=>by rw[←h.blk b hb,←h.base b hb];exact .gm b o len c (h.dom b hb) hc
 |_,_,.iT b o len c e hb he hl yE h1 h2=>by
    rw[←h.len b hb]at h1;rw[←h.base b hb,←h.size b hb]at h2
    rw[←h.blk b hb,←h.base b hb];exact .iT b o len c e (h.dom b hb) he hl yE h1 h2
 |_,_,.jN b o e a hb he h1=>.jN b o e a (h.dom b hb) he (by rw[h.len b hb];exact h1)
 |_,_,.lI b o a hb=>.lI b o a (h.dom b hb)
 |_,_,.Zc=>.Zc
 |_,_,.map r hr=>by rw[←h.blk r hr];exact .map r (h.dom r hr)
 |_,_,.nilFunc=>.nilFunc
 |_,_,.func f a b a' b' h1 h2=>.func f a b a' b' (eT.mono h h1) (eT.mono h h2)
 |_,_,.nilIface=>.nilIface
 |_,_,.iface t v v' h1=>.iface t v v' (VR.mono h h1)
 |_,_,.agg a a' h1=>.agg a a' (eT.mono h h1)
 |_,_,.tuple a a' h1=>.tuple a a' (eT.mono h h1)
 |_,_,.any v h1 h2=>.any v h1 h2
theorem eT.mono {R R':Ren}(h:R.le R'): ∀{l l':List Value},eT R l l'→eT R' l l'
 |_,_,.nil=>.nil
 |_,_,.cons h1 h2=>.cons (VR.mono h h1) (eT.mono h h2)
end
theorem eT.length {R:Ren}: ∀{l l':List Value},eT R l l'→l.length=l'.length
 |_,_,.nil=>rfl
 |_,_,.cons _ h=>by simp[eT.length h]
theorem eT.get {R:Ren}: ∀{l l':List Value},eT R l l'→∀(i:Nat) (v:Value),l[i]? =some v→∃v',l'[i]? =some v'∧VR R v v'
 |_,_,.nil,i,v,h=>by simp at h
 |_,_,.cons (v:=u) (v':=u') hu hs,i,v,h=>by
  cases i with
  |zero=>simp at h;subst h;exact⟨u',by simp,hu⟩
  |succ i=>simpa using eT.get hs i v (by simpa using h)
theorem eT.append {R:Ren}{b b':List Value}(h2:eT R b b'): ∀{a a':List Value},eT R a a'→eT R (a++b) (a'++b')
 |_,_,.nil=>h2
 |_,_,.cons h hs=>.cons h (eT.append h2 hs)
theorem eT.take {R:Ren}: ∀{l l':List Value},eT R l l'→∀n,eT R (l.take n) (l'.take n)
 |_,_,.nil,n=>by simp;exact .nil
 |_,_,.cons h hs,0=>by simp;exact .nil
 |_,_,.cons h hs,n+1=>by simp;exact .cons h (eT.take hs n)
theorem eT.drop {R:Ren}: ∀{l l':List Value},eT R l l'→∀n,eT R (l.drop n) (l'.drop n)
 |_,_,.nil,n=>by simp;exact .nil
 |_,_,.cons h hs,0=>by simp;exact .cons h hs
 |_,_,.cons h hs,n+1=>by simp;exact eT.drop hs n
theorem eT.putAt {R:Ren}{l l' vs vs':List Value}(h:eT R l l')(hv:eT R vs vs')(o:Nat):eT R (putAt l o vs) (putAt l' o vs'):=by
 unfold Go.Proofs.YtofpmkhcbijilaaGreatDoorI.putAt
 rw[hv.length]
 exact eT.append (h.drop _) (eT.append hv (h.take _))
theorem eT.map {R:Ren}{α:Type}{f g:α→Value}: ∀(l:List α),(∀x ∈ l,VR R (f x) (g x))→eT R (l.map f) (l.map g)
 |[],_=>.nil
 |x::l,h=>.cons (h x (by simp)) (eT.map l fun y hy=>h y (by simp[hy]))
theorem VR.qN (R:Ren){v:Value}(h:l9 v=true):VR R v v:=by
 cases v <;> first|(simp[l9]at h;done)|constructor
theorem eT.qN (R:Ren): ∀{l:List Value},l.all l9=true→eT R l l
 |[],_=>.nil
 |v::l,h=>by
  simp only[List.all_cons,Bool.and_eq_true]at h
  exact .cons (VR.qN R h.1) (eT.qN R h.2)
theorem VR.O8 (R:Ren){v:Value}(h:nL v=true):VR R v v:=by
 cases v <;> first|exact VR.qN R h|exact .agg _ _ (eT.qN R h)
theorem VR.w9 {R:Ren}{v v':Value}(h:VR R v v')(hs:l9 v=true):v'=v:=by
 cases h <;> first|rfl|(simp[l9]at hs;done)
theorem eT.w9 {R:Ren}: ∀{l l':List Value},eT R l l'→l.all l9=true→l'=l
 |_,_,.nil,_=>rfl
 |_,_,.cons h hs,hl=>by
  simp only[List.all_cons,Bool.and_eq_true]at hl
  rw[VR.w9 h hl.1,eT.w9 hs hl.2]
theorem VR.uU {R:Ren}{v v':Value}(h:VR R v v')(hs:nL v=true):v'=v:=by
 cases h <;> first|rfl|(simp[nL,l9]at hs;done)|skip
 rename_i a a' hl
 have:=eT.w9 hl hs
 cases a;cases a';simp_all
theorem VR.nN (R:Ren){v:Value}(h:uS v=true):VR R v v:=by
 unfold uS at h
 split at h <;> first|constructor|exact VR.qN R h|skip
 rename_i vs
 simp at h
 subst h
 exact .nil
theorem eT.nN (R:Ren): ∀{l:List Value},l.all uS=true→eT R l l
 |[],_=>.nil
 |v::l,h=>by
  simp only[List.all_cons,Bool.and_eq_true]at h
  exact .cons (VR.nN R h.1) (eT.nN R h.2)
theorem VR.qF (R:Ren){v:Value}(h:qy v=true):VR R v v:=by
 unfold qy at h
 split at h
 ·exact .agg _ _ (eT.nN R h)
 ·exact VR.nN R h
theorem VR.cells {R:Ren}{v v':Value}(h:VR R v v'):eT R v.cells.toList v'.cells.toList:=by
 have h':=h
 cases h with
 |agg a a' h1=>exact h1
 |any _ h1 _=>
  have:v'.cells = #[v']:=by cases v' <;> first|rfl|(simp[fo]at h1;done)
  rw[this]
  exact .cons h' .nil
 |_=>exact .cons h' .nil
theorem VR.one {R:Ren}{v v':Value}(h:VR R v v'):fo v'=fo v:=by cases h <;> first|rfl|assumption
theorem eT.one {R:Ren}: ∀{l l':List Value},eT R l l'→l'.all fo=l.all fo
 |_,_,.nil=>rfl
 |_,_,.cons h hs=>by simp[VR.one h,eT.one hs]
structure M9 (R:Ren)(e e':MapEntry):Prop where
 key:VR R e.key e'.key
 val:VR R e.val e'.val
 born:e'.born=e.born
inductive dB (R:Ren):List MapEntry→List MapEntry→Prop
 |nil:dB R [] []
 |cons {e e' l l'}:M9 R e e'→dB R l l'→dB R (e::l) (e'::l')
theorem M9.mono {R R':Ren}(h:R.le R'){e e':MapEntry}(k:M9 R e e'):M9 R' e e':=⟨k.key.mono h,k.val.mono h,k.born⟩
theorem dB.mono {R R':Ren}(h:R.le R'): ∀{l l':List MapEntry},dB R l l'→dB R' l l'
 |_,_,.nil=>.nil
 |_,_,.cons h1 h2=>.cons (h1.mono h) (dB.mono h h2)
theorem dB.length {R:Ren}: ∀{l l':List MapEntry},dB R l l'→l.length=l'.length
 |_,_,.nil=>rfl
 |_,_,.cons _ h=>by simp[dB.length h]
theorem dB.get {R:Ren}: ∀{l l':List MapEntry},dB R l l'→∀(i:Nat) (v:MapEntry),l[i]? =some v→∃v',l'[i]? =some v'∧M9 R v v'
 |_,_,.nil,i,v,h=>by simp at h
 |_,_,.cons (e:=u) (e':=u') hu hs,i,v,h=>by
  cases i with
  |zero=>simp at h;subst h;exact⟨u',by simp,hu⟩
  |succ i=>simpa using dB.get hs i v (by simpa using h)
theorem dB.append {R:Ren}{b b':List MapEntry}(h2:dB R b b'): ∀{a a':List MapEntry},dB R a a'→dB R (a++b) (a'++b')
 |_,_,.nil=>h2
 |_,_,.cons h hs=>.cons h (dB.append h2 hs)
theorem dB.modify {R:Ren}{f f':MapEntry→MapEntry}(hf: ∀e e',M9 R e e'→M9 R (f e) (f' e')): ∀{l l':List MapEntry},dB R l l'→∀i,dB R (l.modify i f) (l'.modify i f')
 |_,_,.nil,i=>by simp;exact .nil
 |_,_,.cons h hs,0=>by simp;exact .cons (hf _ _ h) hs
 |_,_,.cons h hs,i+1=>by simp;exact .cons h (dB.modify hf hs i)
theorem dB.erase {R:Ren}: ∀{l l':List MapEntry},dB R l l'→∀i,dB R (l.eraseIdx i) (l'.eraseIdx i)
 |_,_,.nil,i=>by simp;exact .nil
 |_,_,.cons h hs,0=>by simp;exact hs
 |_,_,.cons h hs,i+1=>by simp;exact .cons h (dB.erase hs i)
def NU (R:Ren):Option Nat→Option Nat→Prop
 |none,none=>True
 |some i,some j=>R.dom i∧j=R.blk i
 |_,_=>False
theorem NU.mono {R R':Ren}(h:R.le R'): ∀{m m':Option Nat},NU R m m'→NU R' m m'
 |none,none,_=>trivial
 |some _,some _,k=>⟨h.dom _ k.1,by rw[k.2,h.blk _ k.1]⟩
 |none,some _,k=>k.elim
 |some _,none,k=>k.elim
def live (H:aa)(b:Nat):Prop:=match H.get b with
 |some .dead|none=>False
 |some _=>True
def bL (H:aa)(b:Nat):Prop:=match H.get b with
 |some (.cells _ true)|some .dead|none=>False
 |some _=>True
def sV (R:Ren)(o:Option dU)(b:Nat)(w:World):Prop:=
 match o with
 |some (.cells cs ro)=>cs.length=R.len b∧R.base b+cs.length≤R.size b∧∃arr t fr,w.heap[R.blk b]? =some (.cells arr t fr)∧arr.size=R.size b ∧
   eT R cs ((arr.toList.drop (R.base b)).take cs.length)∧(ro=false→∀j,R.base b≤j→j≤R.size b→¬ (fr.1≤j∧j<fr.2))
 |some (.map es clock)=> ∃es':Array MapEntry,w.heap[R.blk b]? =some (.map es' clock)∧dB R es es'.toList
 |some (.iter m since seen last)=>R.base b=0∧∃m',w.heap[R.blk b]? =some (.mapIter m' since seen.toArray last)∧NU R m m'
 |some .dead=>True
 |none=>False
structure gT (R:Ren)(H:aa)(w:World):Prop where
 lt: ∀b,R.dom b→b<H.next
 obj: ∀b,R.dom b→sV R (H.get b) b w
 inj: ∀b c,R.dom b→R.dom c→live H b→live H c→(bL H b∨bL H c)→R.blk b=R.blk c→b=c
 wf: ∀b,H.next≤b→H.get b=none
structure Ext (R:Ren)(H:aa)(w:World)(R':Ren)(H':aa)(w':World):Prop where
 le:R.le R'
 next:H.next≤H'.next
 new: ∀b,R'.dom b→R.dom b∨H.next≤b
 far: ∀b,b<H.next→¬ R.dom b→H'.get b=H.get b
 ro: ∀b cs,H.get b=some (.cells cs true)→b<H.next→H'.get b=some (.cells cs true)
 frame: ∀k,k<w.heap.size→(∀b,R.dom b→bL H b→R.blk b≠k)→w'.heap[k]? =w.heap[k]?
 own: ∀b,R'.dom b→bL H' b→w.heap.size≤R'.blk b∨∃c,R.dom c∧bL H c∧R.blk c=R'.blk b
 size:w.heap.size≤w'.heap.size
 os:w'.os=w.os
 tape:w'.tape=w.tape
 output:w'.output=w.output
theorem Ko {H:aa}{b:Nat}(h:bL H b):live H b:=by
 unfold bL at h;unfold live
 split at h <;> simp_all
theorem gT.Tt {R:Ren}{H:aa}{w:World}(h:gT R H w){b:Nat}(hb:R.dom b)(hl:live H b):R.blk b<w.heap.size:=by
 have ho:=h.obj b hb
 unfold live at hl
 unfold sV at ho
 cases hg:H.get b with
 |none=>simp[hg]at hl
 |some o=>
  rw[hg]at ho hl
  cases o with
  |cells cs ro=>
   obtain⟨_,_,arr,t,fr,hw,_⟩:=ho
   exact(Array.getElem?_eq_some_iff.1 hw).1
  |map es clock=>
   obtain⟨es',hw,_⟩:=ho
   exact(Array.getElem?_eq_some_iff.1 hw).1
  |iter m since seen last=>
   obtain⟨_,m',hw,_⟩:=ho
   exact(Array.getElem?_eq_some_iff.1 hw).1
  |dead=>simp at hl
theorem Ext.refl (R:Ren)(H:aa)(w:World):Ext R H w R H w:=
 ⟨R.le_refl,Nat.le_refl _,fun _ h=>.inl h,fun _ _ _=>rfl,fun _ _ h _=>h,fun _ _ _=>rfl,fun b hb hl=>.inr ⟨b,hb,hl,rfl⟩,Nat.le_refl _,rfl,rfl,rfl⟩
theorem Ext.trans {R R' R'':Ren}{H H' H'':aa}{w w' w'':World}(h:Ext R H w R' H' w')(k:Ext R' H' w' R'' H'' w''):Ext R H w R'' H'' w'' where
 le:=h.le.trans k.le
 next:=Nat.le_trans h.next k.next
 new:=fun b hb=>by
  rcases k.new b hb with h1|h1
  ·exact h.new b h1
  ·exact .inr (Nat.le_trans h.next h1)
 far:=fun b hb hn=>by
  have hb': ¬ R'.dom b:=fun hd=>(h.new b hd).elim hn (fun h1=>by omega)
  rw[k.far b (Nat.lt_of_lt_of_le hb h.next) hb',h.far b hb hn]
 ro:=fun b cs hg hb=>k.ro b cs (h.ro b cs hg hb) (Nat.lt_of_lt_of_le hb h.next)
 frame:=fun i hi hn=>by
  rw[k.frame i (Nat.lt_of_lt_of_le hi h.size) ?_,h.frame i hi hn]
  intro b hb hl he
  rcases h.own b hb hl with h1|⟨c,hc,hlc,hec⟩
  ·omega
  ·exact hn c hc hlc (hec.trans he)
 own:=fun b hb hl=>by
  rcases k.own b hb hl with h1|⟨c,hc,hlc,hec⟩
  ·exact .inl (Nat.le_trans h.size h1)
  ·rcases h.own c hc hlc with h1|⟨d,hd,hld,hed⟩
   ·exact .inl (hec▸h1)
   ·exact .inr ⟨d,hd,hld,hed.trans hec⟩
 size:=Nat.le_trans h.size k.size
 os:=k.os.trans h.os
 tape:=k.tape.trans h.tape
 output:=k.output.trans h.output
theorem gT.drawn {R:Ren}{H:aa}{w:World}(h:gT R H w)(n:Nat):gT R H {w with drawn:=n}:=⟨h.lt,fun b hb=>h.obj b hb,h.inj,h.wf⟩
theorem Ext.drawn {R R':Ren}{H H':aa}{w w':World}{n:Nat}(h:Ext R H {w with drawn:=n} R' H' w'):Ext R H w R' H' w':=
 ⟨h.le,h.next,h.new,h.far,h.ro,h.frame,h.own,h.size,h.os,h.tape,h.output⟩
structure iC (n:Nat)(R:Ren)(T:Env)(tmps:Array Value):Prop where
 size:tmps.size=n
 get: ∀t,VR R (T t) (tmps.getD t undef)
theorem VR.undef (R:Ren):VR R undef undef:=.tuple _ _ .nil
theorem iC.mono {n:Nat}{R R':Ren}{T:Env}{tmps:Array Value}(h:R.le R')(k:iC n R T tmps):iC n R' T tmps:=⟨k.size,fun t=>(k.get t).mono h⟩
theorem iC.put {n:Nat}{R:Ren}{T:Env}{a:Act}(k:iC n R T a.tmps){d:Option Nat}(hd: ∀x,d=some x→x<n){v v':Value}(hv:VR R v v'):
 iC n R (T.put d v) (a.put d v').tmps:=by
 cases d with
 |none=>exact k
 |some x=>
  have hx:=hd x rfl
  refine⟨by simp[Act.put,k.size],fun t=> ?_⟩
  show VR R (if t=x then v else T t) _
  by_cases h:t=x
  ·subst h
   have:t<a.tmps.size:=by rw[k.size];exact hx
   simp[Act.put,this]
   exact hv
  ·have hne:x≠t:=fun e=>h e.symm
   have h1:=k.get t
   simp[Act.put,h,Array.getElem?_setIfInBounds_ne hne]at h1 ⊢
   exact h1
theorem put_defers (a:Act)(d:Option Nat)(v:Value):(a.put d v).defers=a.defers:=by cases d <;> rfl
theorem bf {n:Nat}{R:Ren}{T:Env}{a:Act}(k:iC n R T a.tmps){x:Operand}(hx:okO x=true):VR R (ev T x) (a.eval x):=by
 cases x with
 |tmp t=>exact k.get t
 |const v=>exact VR.qF R hx
 |global g=>simp[okO]at hx
 |func f=>exact .func f _ _ _ _ .nil .nil
theorem I7 {n:Nat}{R:Ren}{T:Env}{a:Act}(k:iC n R T a.tmps): ∀{l:List Operand},mG l=true→eT R (l.map (ev T)) (l.map a.eval)
 |[],_=>.nil
 |x::l,h=>by
  simp only[mG,List.all_cons,Bool.and_eq_true]at h
  exact .cons (bf k h.1) (I7 k h.2)
theorem add_lit (b o n:Nat):Addr.add ⟨b,o,none⟩ n=⟨b,o+n,none⟩:=by
 unfold Addr.add;split <;> simp_all
theorem Kq {w:World}{b o:Nat}{arr:Array Value}{t:TypeId}{fr:Nat×Nat}(h:w.heap[b]? =some (.cells arr t fr)):w.cell? ⟨b,o,none⟩=arr[o]? :=by
 simp[World.cell?,h]
theorem Dw (P:Program){w:World}{b o:Nat}{arr:Array Value}{t:TypeId}{fr:Nat×Nat}(h:w.heap[b]? =some (.cells arr t fr)):
 ∀(n i:Nat) (acc:Array Value),o+i+n≤arr.size →
  (loadCellsFrom ⟨b,o,none⟩ i n acc).run P w = .ok (acc++((arr.toList.drop (o+i)).take n).toArray) w
 |0,i,acc,_=>by simp[loadCellsFrom]
 |n+1,i,acc,hn=>by
  have hlt:o+i<arr.size:=by omega
  have hc:w.cell? ⟨b,o+i,none⟩=some arr[o+i]:=by rw[Kq h];simp[hlt]
  have hd:arr.toList.drop (o+i)=arr[o+i]::arr.toList.drop (o+(i+1)):=by
   rw[List.drop_eq_getElem_cons (by simpa using hlt)];simp[Nat.add_assoc]
  simp only[loadCellsFrom,Sem.run_bind,run_load,add_lit,hc,Result.andThen_ok]
  rw[Dw P h n (i+1) _ (by omega),hd]
  simp
theorem run_loadCells (P:Program){w:World}{b o n:Nat}{arr:Array Value}{t:TypeId}{fr:Nat×Nat}(h:w.heap[b]? =some (.cells arr t fr))(hn:o+n≤arr.size):
 (loadCells ⟨b,o,none⟩ n).run P w = .ok ((arr.toList.drop o).take n).toArray w:=by
 unfold loadCells
 rw[Dw P h n 0 #[] (by omega)]
 simp
def World.jR (w:World)(b:Nat)(arr:Array Value)(t:TypeId)(fr:Nat×Nat):World:={w with heap:=w.heap.setIfInBounds b (.cells arr t fr)}
theorem Tu (P:Program){w:World}{b o:Nat}{v:Value}{arr:Array Value}{t:TypeId}{fr:Nat×Nat}(h:w.heap[b]? =some (.cells arr t fr))(ho:o<arr.size)
 (hv:fo v=true) (hf: ¬ (fr.1≤o∧o<fr.2)):(store ⟨b,o,none⟩ v).run P w = .ok () (World.jR w b (arr.setIfInBounds o v) t fr):=by
 have hc:w.cell? ⟨b,o,none⟩=some arr[o]:=by rw[Kq h];simp[ho]
 have hfz:w.frozen? ⟨b,o,none⟩=false:=by
  simp only[World.frozen?,h]
  cases fr with
  |mk lo hi=>simp only[Bool.and_eq_false_iff,decide_eq_false_iff_not];simp only[]at hf;omega
 have hs:w.setCell ⟨b,o,none⟩ v=World.jR w b (arr.setIfInBounds o v) t fr:=by
  unfold World.setCell World.jR
  congr 1
  apply Array.ext_getElem?
  intro i
  by_cases hi:i=b
  ·subst hi
   obtain⟨hlt,hh⟩:=Array.getElem?_eq_some_iff.1 h
   simp[Array.getElem_modify,hh,hlt]
  ·have hi':b≠i:=fun e=>hi e.symm
   simp[Array.getElem?_modify,Array.getElem?_setIfInBounds_ne hi',hi']
 unfold store
 cases v <;> first|(simp[fo]at hv;done)|simp only[Sem.run,hc,hfz,hs,Bool.false_eq_true,if_false]
theorem Al {w:World}{b:Nat}{arr:Array Value}{t:TypeId}{fr:Nat×Nat}(h:b<w.heap.size):(World.jR w b arr t fr).heap[b]? =some (.cells arr t fr):=by
 simp[World.jR,h]
theorem Na (w:World)(b:Nat)(arr arr':Array Value)(t t':TypeId)(fr fr':Nat×Nat):
 World.jR (World.jR w b arr t fr) b arr' t' fr'=World.jR w b arr' t' fr':=by
 simp[World.jR]
theorem QX {w:World}{b:Nat}{arr:Array Value}{t:TypeId}{fr:Nat×Nat}(h:w.heap[b]? =some (.cells arr t fr)):World.jR w b arr t fr=w:=by
 unfold World.jR
 congr 1
 apply Array.ext_getElem?
 intro i
 by_cases hi:i=b
 ·subst hi
  obtain⟨hlt,hh⟩:=Array.getElem?_eq_some_iff.1 h
  simp[hlt,hh]
 ·have hi':b≠i:=fun e=>hi e.symm
  simp[Array.getElem?_setIfInBounds_ne hi']
theorem V4 {w:World}{b k:Nat}{arr:Array Value}{t:TypeId}{fr:Nat×Nat}(h:b≠k):(World.jR w b arr t fr).heap[k]? =w.heap[k]? :=by
 simp[World.jR,Array.getElem?_setIfInBounds_ne h]
theorem zT (P:Program)(b o:Nat)(t:TypeId)(fr:Nat×Nat): ∀(vs:List Value) (i:Nat) (w:World) (arr:Array Value),w.heap[b]? =some (.cells arr t fr) →
 o+i+vs.length≤arr.size→vs.all fo=true→(∀j,o+i≤j→j<o+i+vs.length→¬ (fr.1≤j∧j<fr.2)) →
  (storeCells ⟨b,o,none⟩ vs i).run P w = .ok () (World.jR w b (putAt arr.toList (o+i) vs).toArray t fr)
 |[],i,w,arr,h,hn,_,_=>by
  simp only[storeCells,Sem.run_pure,putAt,List.length_nil,Nat.add_zero,List.append_nil,List.take_append_drop,Array.toArray_toList]
  rw[QX h]
 |v::vs,i,w,arr,h,hn,h1,hf=>by
  simp only[List.all_cons,Bool.and_eq_true]at h1
  simp only[List.length_cons]at hn hf
  have hlt:o+i<arr.size:=by omega
  have hb:b<w.heap.size:=(Array.getElem?_eq_some_iff.1 h).1
  simp only[storeCells,Sem.run_bind,add_lit]
  rw[Tu P h hlt h1.1 (hf _ (Nat.le_refl _) (by omega))]
  simp only[Result.andThen_ok]
  rw[zT P b o t fr vs (i+1) _ (arr.setIfInBounds (o+i) v) (Al hb) (by simpa using(by omega:o+(i+1)+vs.length≤arr.size)) h1.2
   (fun j hj1 hj2=>hf j (by omega) (by omega)),Na]
  congr 2
  apply congrArg
  simp only[putAt,Array.toList_setIfInBounds,List.length_cons]
  have e1:(arr.toList.set (o+i) v).take (o+(i+1))=arr.toList.take (o+i)++[v]:=by
   rw[show o+(i+1)=(o+i)+1 by omega,List.take_add_one]
   simp[List.take_set,hlt]
   rw[List.set_eq_of_length_le (by simp;omega)]
  have e2:(arr.toList.set (o+i) v).drop (o+(i+1)+vs.length)=arr.toList.drop (o+i+(vs.length+1)):=by
   rw[List.drop_set]
   rw[if_pos (by omega)]
   congr 1;omega
  rw[e1,e2]
  simp
theorem xe (P:Program){b o:Nat}{t:TypeId}{fr:Nat×Nat}{vs:List Value}{w:World}{arr:Array Value}(h:w.heap[b]? =some (.cells arr t fr))
 (hn:o+vs.length≤arr.size) (h1:vs.all fo=true) (hf: ∀j,o≤j→j<o+vs.length→¬ (fr.1≤j∧j<fr.2)):
 (storeCells ⟨b,o,none⟩ vs).run P w = .ok () (World.jR w b (putAt arr.toList o vs).toArray t fr):=by
 have:=zT P b o t fr vs 0 w arr h (by omega) h1 (fun j a c=>hf j (by omega) (by omega))
 simpa using this
theorem o8 {α:Type}{P:Program}{s:Sem α}{a:α}(h:aD P s=some a)(w:World):s.run P w = .ok a w:=by
 induction s with
 |pure b=>simp[aD]at h;simp[Sem.run,h]
 |program k ih=>simp only[aD]at h;simp only[Sem.run];exact ih _ h
 |mark m k ih=>simp only[aD]at h;simp only[Sem.run];exact ih h
 |_=>simp[aD]at h
theorem iO (P:Program){w:World}{r cl:Nat}{es:Array MapEntry}(h:w.heap[r]? =some (.map es cl)):(getObj r).run P w = .ok (.map es cl) w:=by
 simp[getObj,Sem.run,h]
theorem aH {P:Program}{t:TypeId}{d:TypeDesc}(h:P.underlying t=some d)(w:World):(underlying t).run P w = .ok d w:=by
 simp[underlying,h]
theorem run_typeInfo {P:Program}{t:TypeId}{i:TypeInfo}(h:P.info? t=some i)(w:World):(typeInfo t).run P w = .ok i w:=by
 simp[typeInfo,h]
theorem dM {P:Program}{t:TypeId}{n:Nat}(h:bz P t=some n)(w:World):(sizeOf t).run P w = .ok n w:=by
 unfold bz at h
 cases hi:P.info? t with
 |none=>simp[hi]at h
 |some i=>simp[hi]at h;simp[sizeOf,run_typeInfo hi,h]
theorem jD {P:Program}{t:TypeId}{z:Value}(h:gz P t=some z)(w:World):(zeroValue t).run P w = .ok z w∧qy z=true:=by
 unfold gz at h
 cases hi:P.info? t with
 |none=>simp[hi]at h
 |some i=>
  cases hz:i.zero with
  |none=>simp[hi,hz]at h
  |some z'=>
   simp[hi,hz]at h
   obtain⟨hg,rfl⟩:=h
   exact⟨by simp[zeroValue,run_typeInfo hi,hz],hg⟩
theorem Dx {P:Program}{t:TypeId}{b:Bool}(h:o7 P t=some b)(w:World):(isAgg t).run P w = .ok b w:=by
 unfold o7 at h
 cases hu:P.underlying t with
 |none=>simp[hu]at h
 |some d=>cases d <;> simp[hu]at h <;> subst h <;> simp[isAgg,aH hu]
theorem Dy {P:Program}{t:TypeId}{n:Nat}(ha:o7 P t=some true)(hs:bz P t=some n){w:World}{b o:Nat}{arr:Array Value}{e:TypeId}{fr:Nat×Nat}
 (h:w.heap[b]? =some (.cells arr e fr)) (hn:o+n≤arr.size):(loadVar t ⟨b,o,none⟩).run P w = .ok (.agg ((arr.toList.drop o).take n).toArray) w:=by
 simp[loadVar,Dx ha,dM hs,run_loadCells P h hn]
theorem Dz {P:Program}{t:TypeId}(ha:o7 P t=some false){w:World}{b o:Nat}{arr:Array Value}{e:TypeId}{fr:Nat×Nat}{v:Value}
 (h:w.heap[b]? =some (.cells arr e fr)) (hv:arr[o]? =some v):(loadVar t ⟨b,o,none⟩).run P w = .ok v w:=by
 simp[loadVar,Dx ha,Kq h,hv]
theorem gT.aT {R:Ren}{H:aa}{w:World}(hS:gT R H w){b o n:Nat}{l:List Value}(hb:R.dom b)(h:H.aT b o n=some l):
 ∃arr t fr,w.heap[R.blk b]? =some (.cells arr t fr)∧R.base b+o+n≤arr.size∧eT R l ((arr.toList.drop (R.base b+o)).take n):=by
 unfold aa.aT at h
 have ho:=hS.obj b hb
 cases hg:H.get b with
 |none=>simp[hg]at h
 |some x=>
  cases x with
  |cells cs ro=>
   rw[hg]at ho
   obtain⟨h1,h2,arr,t,fr,hw,hsz,hv,_⟩:=ho
   simp only[hg]at h
   split at h
   ·rename_i hle
    injection h with h
    subst h
    refine⟨arr,t,fr,hw,by omega,?_⟩
    have:=(hv.drop o).take n
    rw[List.drop_take,List.take_take,List.drop_drop]at this
    rw[show min n (cs.length-o)=n by omega]at this
    exact this
   ·cases h
  |_=>simp[hg]at h
theorem gT.aj {R:Ren}{H:aa}{w:World}(hS:gT R H w){b o:Nat}{v:Value}(hb:R.dom b)(h:H.aj b o=some v):
 ∃arr t fr v',w.heap[R.blk b]? =some (.cells arr t fr)∧arr[R.base b+o]? =some v'∧VR R v v':=by
 unfold aa.aj at h
 have ho:=hS.obj b hb
 cases hg:H.get b with
 |none=>simp[hg]at h
 |some x=>
  cases x with
  |cells cs ro=>
   rw[hg]at ho
   obtain⟨h1,h2,arr,t,fr,hw,hsz,hv,_⟩:=ho
   simp only[hg]at h
   obtain⟨v',hv',hr⟩:=hv.get o v h
   refine⟨arr,t,fr,v',hw,?_,hr⟩
   have hlt:o<cs.length:=(List.getElem?_eq_some_iff.1 h).1
   rw[List.getElem?_take,if_pos hlt,List.getElem?_drop]at hv'
   simpa using hv'
  |_=>simp[hg]at h
theorem DC {R:Ren}{place:Nat→Option (Nat×Nat)}{T:Env}{a:Act}{n:Nat}(hT:iC n R T a.tmps): ∀(parts:List (Nat×Operand)) (ps:List ((Nat×Nat)×Operand)) (cs l:List Value) (cs':Array Value),
 fH place parts=some ps→(∀x ∈ parts,okO x.2=true)→eT R cs cs'.toList→bZ cs (ps.map fun p=>(p.1,ev T p.2))=some l →
  ∃l',Instr.fill place cs' (parts.map fun p=>(p.1,a.eval p.2))=some l'∧eT R l l'.toList
 |[],ps,cs,l,cs',hp,_,hc,hf=>by
  simp only[fH,Option.some.injEq]at hp
  subst hp
  simp only[List.map_nil,bZ,Option.some.injEq]at hf
  subst hf
  exact⟨cs',rfl,hc⟩
 |(i,x)::r,ps,cs,l,cs',hp,hok,hc,hf=>by
  simp only[fH,bind,Option.bind,pure]at hp
  cases hpl:place i with
  |none=>simp[hpl]at hp
  |some p=>
   obtain⟨off,size⟩:=p
   cases hr:fH place r with
   |none=>simp[hpl,hr]at hp
   |some rs=>
    simp only[hpl,hr,Option.some.injEq]at hp
    subst hp
    simp only[List.map_cons,bZ]at hf
    have hx:VR R (ev T x) (a.eval x):=bf hT (hok (i,x) (by simp))
    have hxc:=hx.cells
    have hsz:(a.eval x).cells.size=(ev T x).cells.size:=by have:=hxc.length;simpa using this.symm
    split at hf
    ·rename_i hcond
     obtain⟨hc1,hc2⟩:=hcond
     have hlen:cs.length=cs'.size:=by have:=hc.length;simpa using this
     simp only[List.map_cons,Instr.fill,hpl]
     rw[if_neg (by rw[hsz,hc1];simp;omega)]
     refine DC hT r rs _ l _ hr (fun y hy=>hok y (by simp[hy])) ?_ hf
     have hput:=eT.putAt hc hxc off
     have:(Array.foldl (fun(cs:Array Value) (x:Value×Nat)=>cs.setIfInBounds (off+x.2) x.1) cs' (a.eval x).cells.zipIdx).toList=putAt cs'.toList off (a.eval x).cells.toList:=by
      have key: ∀(vs:List Value) (k:Nat) (arr:Array Value),off+k+vs.length≤arr.size →
       (List.foldl (fun(cs:Array Value) (x:Value×Nat)=>cs.setIfInBounds (off+x.2) x.1) arr (vs.zipIdx k)).toList=putAt arr.toList (off+k) vs:=by
       intro vs
       induction vs with
       |nil=>intro k arr _;simp[putAt]
       |cons v vs ih=>
        intro k arr hk
        simp only[List.length_cons]at hk
        simp only[List.zipIdx_cons,List.foldl_cons]
        rw[ih (k+1) _ (by simp;omega)]
        have hlt:off+k<arr.size:=by omega
        simp only[putAt,Array.toList_setIfInBounds,List.length_cons]
        have e1:(arr.toList.set (off+k) v).take (off+(k+1))=arr.toList.take (off+k)++[v]:=by
         rw[show off+(k+1)=(off+k)+1 by omega,List.take_add_one]
         simp[List.take_set,hlt]
         rw[List.set_eq_of_length_le (by simp;omega)]
        have e2:(arr.toList.set (off+k) v).drop (off+(k+1)+vs.length)=arr.toList.drop (off+k+(vs.length+1)):=by
         rw[List.drop_set,if_pos (by omega)]
         congr 1;omega
        rw[e1,e2];simp
      have hk:=key (a.eval x).cells.toList 0 cs' (by simp;omega)
      rw[←Array.foldl_toList]
      simpa[Array.toList_zipIdx]using hk
     rw[this]
     exact hput
    ·cases hf
section
theorem O9 {α β:Type}(P:Program)(s:Sem α)(f:α→Sem β):aD P (s.bind f)=(aD P s).bind fun a=>aD P (f a):=by
 induction s with
 |pure b=>rfl
 |program k ih=>simp only[Sem.bind,aD];exact ih _
 |mark m k ih=>simp only[Sem.bind,aD];exact ih
 |_=>rfl
theorem aI {α β:Type}(P:Program)(s:Sem α)(f:α→Sem β):aD P (s >>= f)=(aD P s).bind fun a=>aD P (f a):=O9 P s f
theorem gL {α:Type}(P:Program)(a:α):aD P (pure a:Sem α)=some a:=rfl
theorem bT {P:Program}{t:TypeId}{d:TypeDesc}(h:P.underlying t=some d):aD P (underlying t)=some d:=by
 unfold underlying;rw[aI];show aD P (match P.underlying t with|some d=>_|none=>_)=_;rw[h];rfl
section
variable {P:Program} {n:Nat} {R:Ren} {H:aa} {w:World} {T:Env} {a:Act}
theorem aG {l:List Operand}(h:mG l=true){x:Operand}(hx:x ∈ l):okO x=true:=List.all_eq_true.1 h x hx
theorem QY {a b:Addr}{ca cb:Array Value}{ta tb:TypeId}{fa fb:Nat×Nat}(hbl:a.block≠b.block)(ha:w.heap[a.block]? =some (.cells ca ta fa))(hb:w.heap[b.block]? =some (.cells cb tb fb))
 (sa: ¬ (fa.1≤a.off∧a.off<fa.2)) (sb: ¬ (fb.1≤b.off∧b.off<fb.2)) (na: ¬ (fa.1≤ca.size∧ca.size<fa.2)) (nb: ¬ (fb.1≤cb.size∧cb.size<fb.2)):(sameAddr a b).run P w = .ok false w:=by
 simp[sameAddr,hbl,World.frozen?,ha,hb,noView,viewAt,World.shape?,mayBeOne,stringish,sa,sb,na,nb]
theorem QZ {b o:Nat}(hS:gT R H w)(hb:R.dom b)(h:O4 H b o=true):live H b∧bL H b∧∃arr t fr,w.heap[R.blk b]? =some (.cells arr t fr)∧¬ (fr.1≤R.base b+o∧R.base b+o<fr.2)∧¬ (fr.1≤arr.size∧arr.size<fr.2):=by
 unfold O4 at h
 split at h
 ·rename_i cs hg
  have ho:o≤cs.length:=of_decide_eq_true h
  have Zd:=hS.obj b hb
  unfold sV at Zd
  rw[hg]at Zd
  obtain⟨h1,h2,arr,t,fr,h3,h4,-,h6⟩:=Zd
  refine⟨by simp[live,hg],by simp[bL,hg],arr,t,fr,h3,h6 rfl _ (by omega) (by omega),?_⟩
  rw[h4];exact h6 rfl _ (by omega) (Nat.le_refl _)
 ·cases h
theorem V5 {p q p' q':Value}{r:Bool}{elem:TypeId}{i:TypeInfo}{t:TypeId}(hS:gT R H w)(h:ptrEq H p q=some r)(hp:VR R p p')(hq:VR R q q')(hu:P.underlying t=some (.pointer elem))(hi:P.info? elem=some i)(hz:i.size≠0)(d:Nat):
 (Op.equalIn (d+1) t p' q').run P w = .ok r w:=by
 unfold ptrEq at h
 split at h
 ·rename_i b o b' o'
  cases hp with|ptr _ _ hb=>
  cases hq with|ptr _ _ hb'=>
  have e:(Op.equalIn (d+1) t (.pointer (some ⟨R.blk b,R.base b+o,none⟩)) (.pointer (some ⟨R.blk b',R.base b'+o',none⟩))).run P w=(sameAddr ⟨R.blk b,R.base b+o,none⟩ ⟨R.blk b',R.base b'+o',none⟩).run P w:=by
   simp[Op.equalIn,run_underlying hu,typeInfo,sizeOf,hi,hz]
  rw[e]
  by_cases hbb:b=b'
  ·subst hbb
   rw[if_pos rfl]at h
   injection h with h
   subst h
   by_cases ho:o=o'
   ·subst ho;rw[run_sameAddr_same];simp
   ·simp[sameAddr,ho]
  ·rw[if_neg hbb]at h
   split at h
   ·rename_i hr
    injection h with h
    subst h
    rw[Bool.and_eq_true]at hr
    obtain⟨l1,l2,c1,t1,f1,g1,g2,g3⟩:=QZ hS hb hr.1
    obtain⟨m1,m2,c2,t2,f2,k1,k2,k3⟩:=QZ hS hb' hr.2
    exact QY (fun e=>hbb (hS.inj b b' hb hb' l1 m1 (.inl l2) e)) g1 k1 g2 k2 g3 k3
   ·cases h
 ·cases h
theorem Ze {dst:Option Tmp}{t yt ty:TypeId}{x y:Operand}{pos:String}{after:Array Edge}{g:Option (Nat×Bool)}(hS:gT R H w)(hT:iC n R T a.tmps)(hok:mG (Op.binOp .eql t x y yt).operands.toList=true){v:Value}(hsl:X9 P t=true)(h:uQ H (ev T x) (ev T y)=some v):
 ∃v',(execOp a.eval ⟨dst,.binOp .eql t x y yt,ty,pos,after,g⟩).run P w = .ok (.value v') w∧VR R v v':=by
 unfold uQ at h
 split at h
 case h_2=>cases h
 rename_i cs ds hcs hds
 split at h
 case h_2=>cases h
 rename_i p s q u ec ed
 cases hpq:ptrEq H p q with
 |none=>rw[hpq]at h;cases h
 |some r=>
 rw[hpq]at h
 simp only[Option.map_some,Option.some.injEq]at h
 subst h
 have hx:=bf hT (aG hok (x:=x) (by simp[Op.operands]))
 have hy:=bf hT (aG hok (x:=y) (by simp[Op.operands]))
 rw[hcs]at hx
 rw[hds]at hy
 generalize ex:a.eval x=vx at hx
 generalize ey:a.eval y=vy at hy
 cases hx with|agg _ cs' hxs=>
 cases hy with|agg _ ds' hys=>
 rw[ec]at hxs
 rw[ed]at hys
 obtain⟨cs'⟩:=cs'
 obtain⟨ds'⟩:=ds'
 simp only at hxs hys
 cases hxs with|cons hp1 hp2=>
 rename_i p' lx
 cases hys with|cons hq1 hq2=>
 rename_i q' ly
 cases hp2 with|cons hs1 hs2=>
 cases hq2 with|cons hu1 hu2=>
 cases hs1 with|string=>
 cases hu1 with|string=>
 cases hs2 with|nil=>
 cases hu2 with|nil=>
 unfold X9 at hsl
 split at hsl
 case h_2=>cases hsl
 rename_i fs hfs
 split at hsl
 case h_2=>cases hsl
 rename_i f1 f2 qif
 split at hsl
 case h_2=>cases hsl
 rename_i e hu1 hu2
 simp only[Bool.and_eq_true,decide_eq_true_eq,Bool.not_eq_true']at hsl
 obtain⟨⟨⟨⟨⟨⟨n1,n2⟩,o1⟩,o2⟩,hsz⟩,hst⟩,hgd⟩:=hsl
 split at hsz
 case h_2=>cases hsz
 rename_i i hi
 have hz:i.size≠0:=of_decide_eq_true hsz
 have hfo:P.fieldsOf t=fs:=by unfold Program.fieldsOf;rw[hfs]
 refine⟨.bool (r&&decide (s=u)),?_,.bool _⟩
 have hp:=fun d=>V5 (w:=w) hS hpq hp1 hq1 hu1 hi hz d
 have he:(Op.equal t (.agg #[p',.string s]) (.agg #[q',.string u])).run P w = .ok (r&&decide (s=u)) w:=by
  unfold Op.equal Op.maxDepth
  rw[run_equalIn_struct w 9999 t _ _ (by rw[hfo];exact hfs) hst,hfo,qif]
  have h0:(Op.equalIn 9999 f1.type p' q').run P w = .ok r w:=hp 9998
  have h1:(Op.equalIn 9999 f2.type (.string s) (.string u)).run P w = .ok (decide (s=u)) w:=by
   have hc:(s.data.toList == u.data.toList)=decide (s=u):=by
    by_cases hsu:s=u
    ·subst hsu;simp
    ·have: ¬ s.data.toList=u.data.toList:=fun e=>hsu (by obtain⟨⟨x⟩⟩:=s;obtain⟨⟨y⟩⟩:=u;simp at e;rw[e])
     rw[beq_eq_false_iff_ne.2 this,decide_eq_false hsu]
   rw[run_equalIn_string w 9998 _ _ _ hu2,ByteArray.toList_eq,ByteArray.toList_eq,hc]
  have p1: ∀x y:Value,(part f1.type #[x,y] 0).run P w = .ok x w:=fun x y=>by simp[part,isAgg,run_underlying hu1]
  have p2: ∀x y:Value,(part f2.type #[x,y] 1).run P w = .ok y w:=fun x y=>by simp[part,isAgg,run_underlying hu2]
  simp only[Op.eqFields,n1,n2,o1,o2,ne_eq,not_false_eq_true,if_true,Sem.run_bind,p1,p2,h0,h1,Result.andThen_ok]
  cases r
  ·simp
  ·cases hd:decide (s=u) <;> simp[h1,p2,hd]
 simp only[execOp,ex,ey]
 have hg:(eqGuard .eql t x y (.agg #[p',.string s]) (.agg #[q',.string u])).run P w = .ok () w:=by simp[eqGuard,hgd]
 simp only[Sem.run_bind,hg,Result.andThen_ok,binOp,he,Sem.run_pure]
theorem I8 {o:Oper}(hT:iC n R T a.tmps)(hsel: ∀cs b,o.op ≠ .select cs b)(hok:mG o.op.operands.toList=true){v:Value}
 (h:bB P T H (.raw o.op o.type)=some v) (w:World): ∃v',(execOp a.eval o).run P w = .ok (.value v') w∧VR R v v':=by
 simp only[bB]at h
 split at h
 ·rename_i hs
  split at h
  ·rename_i u hu
   split at h
   ·rename_i hsc
    injection h with h
    subst h
    refine⟨u,?_,VR.O8 R hsc⟩
    have e:execOp a.eval o=execOp (ev T) o:=execOp_congr o hsel fun x hx=>by
     have hx':x ∈ o.op.operands.toList:=by simpa using hx
     exact(bf hT (aG hok hx')).uU (List.all_eq_true.1 hs x hx')
    rw[e]
    exact o8 (s:=execOp (ev T) o) hu w
   ·cases h
  ·cases h
 ·cases h
theorem VR.qz {v':Value}{k:IntKind}{i:Int}(h:VR R (.int k i) v'):v' = .int k i:=by cases h;rfl
theorem VR.Kr {v':Value}{b:Bool}(h:VR R (.bool b) v'):v' = .bool b:=by cases h;rfl
theorem VR.Kt {v':Value}{s:ByteArray}(h:VR R (.string s) v'):v' = .string s:=by cases h;rfl
theorem VR.o5 {v':Value}{b o:Nat}(h:VR R (.pointer (some ⟨b,o,none⟩)) v'):v' = .pointer (some ⟨R.blk b,R.base b+o,none⟩)∧R.dom b:=by
 cases h;exact⟨rfl,by assumption⟩
theorem VR.map_nil {v':Value}(h:VR R (.map none) v'):v' = .map none:=by cases h;rfl
theorem VR.map_some {v':Value}{r:Nat}(h:VR R (.map (some r)) v'):v' = .map (some (R.blk r))∧R.dom r:=by cases h;exact⟨rfl,by assumption⟩
theorem VR.Zf {v':Value}{x:Addr}(h:VR R (.pointer (some x)) v'): ∃y,v' = .pointer (some y):=by cases h;exact⟨_,rfl⟩
theorem VR.I9 {v':Value}{cs:Array Value}(h:VR R (.agg cs) v'): ∃cs',v' = .agg cs'∧eT R cs.toList cs'.toList:=by cases h;exact⟨_,rfl,by assumption⟩
theorem VR.V6 {v':Value}{cs:Array Value}(h:VR R (.tuple cs) v'): ∃cs',v' = .tuple cs'∧eT R cs.toList cs'.toList:=by cases h;exact⟨_,rfl,by assumption⟩
theorem VR.Fx {v' v:Value}{t:TypeId}(h:VR R (.iface t v) v'): ∃u,v' = .iface t u∧VR R v u:=by cases h;exact⟨_,rfl,by assumption⟩
theorem VR.Q0 {v':Value}{f:FuncId}{x y:Array Value}(h:VR R (.func (.func f) x y) v'): ∃x' y',v' = .func (.func f) x' y'∧eT R x.toList x'.toList∧eT R y.toList y'.toList:=by
 cases h;exact⟨_,_,rfl,by assumption,by assumption⟩
theorem VR.tV {v':Value}{x:Option Addr}{l c:Nat}(h:VR R (.slice x l c) v'): ∃x' c',v' = .slice x' l c':=by
 cases h <;> exact⟨_,_,rfl⟩
theorem VR.yF {v':Value}{l c:Nat}(h:VR R (.slice none l c) v'):v' = .slice none 0 0∧l=0∧c=0:=by cases h;exact⟨rfl,rfl,rfl⟩
theorem VR.gU {v':Value}{x:Addr}{l c:Nat}(h:VR R (.slice (some x) l c) v'):R.dom x.block∧x.spot=none ∧
 ((∃c',v' = .slice (some ⟨R.blk x.block,R.base x.block+x.off,none⟩) l c')∨(l=0∧∃a',v' = .slice (some a') 0 0)):=by
 cases h with
 |gm b o _ _ hb=>exact⟨hb,rfl,.inl ⟨_,rfl⟩⟩
 |iT b o _ _ _ hb=>exact⟨hb,rfl,.inl ⟨_,rfl⟩⟩
 |jN b o _ _ hb=>exact⟨hb,rfl,.inr ⟨rfl,_,rfl⟩⟩
 |lI b o _ hb=>exact⟨hb,rfl,.inr ⟨rfl,_,rfl⟩⟩
theorem tX (hT:iC n R T a.tmps){x:Operand}(hx:okO x=true){i:Nat}(h:gK T x=some i): ∃k z,a.eval x = .int k z∧0≤z∧z.toNat=i:=by
 have hr:=bf hT hx
 unfold gK at h
 cases he:ev T x <;> rw[he]at h hr <;> simp at h
 exact⟨_,_,hr.qz,h.1,h.2⟩
theorem j4 {x:Operand}{i:Int}{y:Nat}{code:BoundsCode}{k:IntKind}(he:a.eval x = .int k i)(h0:0≤i)(hy:i.toNat≤y):
 (Instr.sliceBound (a.eval x) y code).run P w = .ok i.toNat w:=by
 unfold Instr.sliceBound
 rw[he]
 simp only[asIntOf,pure_bind]
 rw[if_pos ⟨h0,by omega⟩]
 rfl
theorem Ku (hT:iC n R T a.tmps){lo hi mx:Option Operand}(hl: ∀x,lo=some x→okO x=true)(hh: ∀x,hi=some x→okO x=true)(hm: ∀x,mx=some x→okO x=true)
 {len c' l h:Nat} {m:Option Nat} {isS:Bool} (hb:bH T len lo hi mx=some (l,h,m)) (hmc: ∀x,m=some x→x≤c') (hhc:m=none→h≤c'):
 (Instr.sliceBounds isS len c' (lo.map a.eval) (hi.map a.eval) (mx.map a.eval)).run P w = .ok (l,h,m.getD c') w∧l≤h∧(∀x,m=some x→h≤x):=by
 unfold bH at hb
 split at hb
 ·rename_i m' h' l' hm' hh' hl'
  split at hb
  ·rename_i hc
   simp only[Option.some.injEq,Prod.mk.injEq]at hb
   obtain⟨rfl,rfl,rfl⟩:=hb
   have hmx: ∀x,m'=some x→h'≤x:=by rintro x rfl;simpa using hc.2
   refine⟨?_,hc.1,hmx⟩
   have hmq:=hmc
   clear hmc
   unfold Instr.sliceBounds
   cases mx with
   |none=>
    simp only[Option.some.injEq]at hm'
    subst hm'
    have hhq:=hhc rfl
    cases hi with
    |none=>
     simp at hh'
     subst hh'
     cases lo with
     |none=>simp at hl';subst hl';rfl
     |some v=>
      obtain⟨k,z,hz,h0,hq⟩:=tX hT (hl v rfl) hl'
      subst hq
      simp only[Option.map_some,Option.map_none,Option.getD_none,Option.isSome_none,pure_bind,Sem.run_bind]
      rw[j4 hz h0 hc.1]
      rfl
    |some u=>
     obtain⟨k,z,hz,h0,hq⟩:=tX hT (hh u rfl) hh'
     subst hq
     cases lo with
     |none=>
      simp at hl'
      subst hl'
      simp only[Option.map_some,Option.map_none,Option.getD_none,pure_bind,Sem.run_bind]
      rw[j4 hz h0 hhq]
      rfl
     |some v=>
      obtain⟨k2,z2,hz2,h02,hq2⟩:=tX hT (hl v rfl) hl'
      subst hq2
      simp only[Option.map_some,Option.map_none,Option.getD_none,pure_bind,Sem.run_bind]
      rw[j4 hz h0 hhq]
      simp only[Result.andThen_ok]
      rw[j4 hz2 h02 hc.1]
      rfl
   |some x=>
    cases hx:gK T x with
    |none=>simp[hx]at hm'
    |some q=>
     simp only[hx,Option.map_some,Option.some.injEq]at hm'
     subst hm'
     obtain⟨k3,z3,hz3,h03,hq3⟩:=tX hT (hm x rfl) hx
     have hqc:=hmq _ rfl
     have hhq:=hmx _ rfl
     subst hq3
     cases hi with
     |none=>simp at hh'
     |some u=>
      obtain⟨k,z,hz,h0,hq⟩:=tX hT (hh u rfl) hh'
      subst hq
      cases lo with
      |none=>
       simp at hl'
       subst hl'
       simp only[Option.map_some,Option.map_none,Option.getD_some,Sem.run_bind]
       rw[j4 hz3 h03 hqc]
       simp only[Result.andThen_ok]
       rw[j4 hz h0 hhq]
       rfl
      |some v=>
       obtain⟨k2,z2,hz2,h02,hq2⟩:=tX hT (hl v rfl) hl'
       subst hq2
       simp only[Option.map_some,Option.getD_some,Sem.run_bind]
       rw[j4 hz3 h03 hqc]
       simp only[Result.andThen_ok]
       rw[j4 hz h0 hhq]
       simp only[Result.andThen_ok]
       rw[j4 hz2 h02 hc.1]
       rfl
  ·cases hb
 ·cases hb
theorem Kv (hS:gT R H w){size len cap l h:Nat}{m:Option Nat}{x:Option Addr}{v y:Value}(hv:VR R (.slice x len cap) v)(hlh:l≤h)(hhm: ∀q,m=some q→h≤q)
 (hi:bK H size x len cap l h m=some y): ∃x' c',v = .slice x' len c'∧(∀q,m=some q→q≤c')∧(m=none→h≤c') ∧
   VR R y (.slice (if m.getD c'=l then x' else x'.map (·.add (l*size))) (h-l) (m.getD c'-l)):=by
 have hmax:h≤m.getD h:=by cases m with|none=>exact Nat.le_refl _|some q=>exact hhm q rfl
 cases hv with
 |tT=>
  unfold bK at hi
  rw[if_pos (by unfold dQ;omega)]at hi
  split at hi
  ·rename_i hc
   injection hi with hi
   refine⟨none,0,rfl,?_,?_,?_⟩
   ·rintro q rfl;simpa using hc.2
   ·rintro rfl;simpa using hc.1
   ·have:m.getD 0=0:=by omega
    have hl:l=0:=by omega
    have hh:h=0:=by omega
    subst hl;subst hh
    rw[←hi,this]
    simp
    exact .tT
  ·cases hi
 |gm b o len c hb hc=>
  unfold bK at hi
  rw[if_pos hc]at hi
  split at hi
  ·rename_i hc'
   injection hi with hi
   refine⟨_,_,rfl,?_,?_,?_⟩
   ·rintro q rfl;simpa using hc'.2
   ·rintro rfl;simpa using hc'.1
   ·rw[←hi]
    by_cases hz:m.getD cap=l
    ·simp only[hz,if_true]
     exact .gm b o _ _ hb (by omega)
    ·simp only[if_neg hz,Option.map_some,add_lit]
     rw[Nat.add_assoc]
     exact .gm b _ _ _ hb (by omega)
  ·cases hi
 |lI b o a' hb=>
  unfold bK at hi
  rw[if_pos (by unfold dQ;omega)]at hi
  split at hi
  ·rename_i hc
   injection hi with hi
   refine⟨_,0,rfl,?_,?_,?_⟩
   ·rintro q rfl;simpa using hc.2
   ·rintro rfl;simpa using hc.1
   ·have:m.getD 0=0:=by omega
    have hl:l=0:=by omega
    have hh:h=0:=by omega
    subst hl;subst hh
    rw[←hi,this]
    simp
    exact .lI _ _ _ hb
  ·cases hi
 |iT b o len c e hb he hlc yE h1 h2=>
  unfold bK at hi
  rw[if_neg (by unfold dQ;omega)]at hi
  simp only[]at hi
  split at hi
  ·rename_i hsz
   have hes:e=size:=by have:=hsz.1;omega
   subst hes
   have hcond:=hsz.2.2
   ·have hle:m.getD h≤c:=by
     rcases hcond with hq|hq
     ·omega
     ·have ho:=hS.obj b hb
      cases hg:H.get b with
      |none=>simp[tN,hg]at hq
      |some ob=>
       cases ob with
       |cells cs ro=>
        rw[hg]at ho
        simp[tN,hg]at hq
        have hcs:=ho.1
        have:m.getD h*e≤c*e:=by omega
        exact Nat.le_of_mul_le_mul_right this he
       |_=>simp[tN,hg]at hq
    refine⟨_,c,rfl,?_,?_,?_⟩
    ·rintro q rfl;simpa using hle
    ·rintro rfl;simpa using hle
    ·cases m with
     |none=>
      simp only[Option.some.injEq]at hi
      subst hi
      simp only[Option.getD_none]at hle ⊢
      by_cases hz:c=l
      ·have:h=l:=by omega
       subst this;subst hz
       simp only[if_true,Nat.sub_self]
       exact .jN b _ e _ hb he h1
      ·rw[if_neg hz]
       simp only[Option.map_some,add_lit]
       rw[Nat.add_assoc]
       have hmul:l*e+(c-l)*e=c*e:=by rw[←Nat.add_mul];congr 1;omega
       exact .iT b _ _ _ e hb he (by omega) (by omega) (by omega) (by omega)
     |some q=>
      simp only[Option.getD_some]at hle ⊢
      simp only[]at hi
      split at hi
      ·rename_i hq
       injection hi with hi
       subst hi
       by_cases hz:q=l
       ·simp only[hz,if_true]
        exact .gm b o _ _ hb (by omega)
       ·simp only[if_neg hz,Option.map_some,add_lit]
        rw[Nat.add_assoc]
        exact .gm b _ _ _ hb (by omega)
      ·cases hi
  ·cases hi
 |jN b o e a' hb he h1=>
  unfold bK at hi
  rw[if_neg (by unfold dQ;omega)]at hi
  simp only[]at hi
  split at hi
  ·rename_i hsz
   have hes:e=size:=by have:=hsz.1;omega
   subst hes
   have hcond:=hsz.2.2
   ·have hz:m.getD h=0:=by
     rcases hcond with hq|hq
     ·omega
     ·have ho:=hS.obj b hb
      cases hg:H.get b with
      |none=>simp[tN,hg]at hq
      |some ob=>
       cases ob with
       |cells cs ro=>
        rw[hg]at ho
        simp[tN,hg]at hq
        have hcs:=ho.1
        have:m.getD h*e≤0*e:=by omega
        have:=Nat.le_of_mul_le_mul_right this he
        omega
       |_=>simp[tN,hg]at hq
    have hh:h=0:=by omega
    have hl:l=0:=by omega
    subst hh;subst hl
    refine⟨_,0,rfl,?_,?_,?_⟩
    ·rintro q rfl;simpa using hz
    ·rintro rfl;exact Nat.zero_le _
    ·cases m with
     |none=>
      simp only[Option.some.injEq]at hi
      subst hi
      simp
      exact .jN b o e _ hb he h1
     |some q=>
      simp only[Option.getD_some]at hz
      subst hz
      simp at hi
      obtain⟨_,hi⟩:=hi
      subst hi
      simp
      exact .lI _ _ _ hb
  ·cases hi
theorem xg {kt:TypeId}{k:Value}: ∀{es es':List MapEntry},dB R es es'→(∀e ∈ es,nL e.key=true)→∀(i:Nat) (r:Option Nat),mE P kt k es i=some r →
 (Instr.findAsking kt k es' i).run P w = .ok (r.bind fun j=>(es'[j-i]?).map fun e=>(j,e.val)) w∧(∀j,r=some j→i≤j∧j-i<es'.length)
 |_,_,.nil,_,i,r,h=>by
  simp only[mE,Option.some.injEq]at h
  subst h
  exact⟨rfl,by simp⟩
 |_,_,.cons (e:=e) (e':=e') (l:=es) (l':=es') he hes,hs,i,r,h=>by
  have hk:e'.key=e.key:=he.key.uU (hs e (by simp))
  simp only[mE]at h
  simp only[Instr.findAsking,Sem.run_bind,hk]
  split at h
  ·rename_i hq
   injection h with h
   subst h
   rw[o8 hq]
   exact⟨by simp,by simp⟩
  ·rename_i hq
   rw[o8 hq]
   obtain⟨h1,h2⟩:=xg hes (fun e he=>hs e (by simp[he])) (i+1) r h
   refine⟨?_,fun j hj=> ?_⟩
   ·simp only[Result.andThen_ok,Bool.false_eq_true,if_false]
    rw[h1]
    cases r with
    |none=>rfl
    |some j=>
     obtain⟨h3,h4⟩:=h2 j rfl
     simp only[Option.bind_some]
     rw[show j-i=(j-(i+1))+1 by omega,List.getElem?_cons_succ]
   ·obtain⟨h3,h4⟩:=h2 j hj
    exact⟨by omega,by simp;omega⟩
  ·cases h
theorem Am {kt:TypeId}{d:TypeDesc}(hu:P.underlying kt=some d){k x:Value}{b:Bool}(h:Instr.sameNow d k x=some b):aD P (Op.equal kt k x)=some b:=by
 unfold Op.equal Op.maxDepth
 rw[show(10000:Nat)=9999+1 from rfl]
 unfold Op.equalIn
 rw[aI,bT hu]
 simp only[Option.bind_some]
 unfold Instr.sameNow at h
 split at h
 ·split at h
  ·rename_i hk;simp only[hk,if_true];injection h with h;subst h;rfl
  ·cases h
 ·injection h with h;subst h;rfl
 ·injection h with h;subst h;rfl
 ·cases h
theorem G7 {kt:TypeId}{d:TypeDesc}(hu:P.underlying kt=some d){k:Value}: ∀{es es':List MapEntry},dB R es es'→(∀e ∈ es,nL e.key=true)→∀(i:Nat) (r:Option Nat) (q:Option (Nat×Value)),
 mE P kt k es i=some r→Instr.findNow d k es' i=some q→q=r.bind fun j=>(es'[j-i]?).map fun e=>(j,e.val)
 |_,_,.nil,_,i,r,q,h,h'=>by
  simp only[mE,Option.some.injEq]at h
  subst h
  simp[Instr.findNow]at h'
  simp[←h']
 |_,_,.cons (e:=e) (e':=e') (l:=es) (l':=es') he hes,hs,i,r,q,h,h'=>by
  have hk:e'.key=e.key:=he.key.uU (hs e (by simp))
  simp only[mE]at h
  simp only[Instr.findNow,hk]at h'
  split at h'
  ·rename_i hq
   rw[Am hu hq]at h
   simp only[Option.some.injEq]at h h'
   subst h;subst h'
   simp
  ·rename_i hq
   rw[Am hu hq]at h
   simp only[]at h
   have ih:=G7 hu hes (fun e he=>hs e (by simp[he])) (i+1) r q h h'
   rw[ih]
   cases r with
   |none=>rfl
   |some j=>
    have h2:=(xg (P:=P) (w:=default) hes (fun e he=>hs e (by simp[he])) (i+1) (some j) h).2 j rfl
    simp only[Option.bind_some]
    rw[show j-i=(j-(i+1))+1 by omega,List.getElem?_cons_succ]
  ·cases h'
theorem tY {kt:TypeId}{d:TypeDesc}(hu:P.underlying kt=some d){k:Value}{es:List MapEntry}{es':List MapEntry}(he:dB R es es')(hs: ∀e ∈ es,nL e.key=true){r:Option Nat}
 (h:mE P kt k es 0=some r):(Instr.findKey kt k es').run P w = .ok (r.bind fun j=>(es'[j]?).map fun e=>(j,e.val)) w∧(∀j,r=some j→j<es'.length):=by
 obtain⟨h1,h2⟩:=xg (P:=P) (w:=w) he hs 0 r h
 refine⟨?_,fun j hj=>by simpa using(h2 j hj).2⟩
 unfold Instr.findKey
 simp only[Sem.run_bind,aH hu,Result.andThen_ok]
 split
 ·rename_i q hq
  rw[G7 hu he hs 0 r q h hq]
  simp
 ·simpa using h1
theorem Ao {kt:TypeId}{k:Value}{es:List MapEntry}(h:tO P kt k es=true):nL k=true∧(∀e ∈ es,nL e.key=true) ∧
 (∀w,(Instr.checkKey es.isEmpty 10000 kt k).run P w = .ok () w)∧(∀w,(Instr.checkKey false 10000 kt k).run P w = .ok () w)∧∃d,P.underlying kt=some d:=by
 unfold tO at h
 simp only[Bool.and_eq_true,List.all_eq_true]at h
 obtain⟨⟨⟨h1,h2⟩,h3⟩,h4⟩:=h
 obtain⟨u,hu⟩:=Option.isSome_iff_exists.1 h4
 obtain⟨u',hu'⟩:=Option.isSome_iff_exists.1 h3
 refine⟨h1,h2,fun w=>o8 hu' w,fun w=>o8 hu w,?_⟩
 cases hq:P.underlying kt with
 |some d=>exact⟨d,rfl⟩
 |none=>
  exfalso
  rw[show(10000:Nat)=9999+1 from rfl]at hu
  unfold Instr.checkKey at hu
  rw[aI]at hu
  simp[underlying,aI,aD,program,hq,stuck]at hu
end
end
section
section
variable {P:Program} {n:Nat} {R:Ren} {H:aa} {w:World} {T:Env} {a:Act}
theorem NV (P:Program)(w:World): ∀(l:List Value) (l8:List UInt8) (acc:ByteArray),gQ l=some l8 →
 (forIn l acc (fun(c:Value) (r:ByteArray)=>(match c with
   | .int .u8 n=>do
     let s:=r.push (UInt8.ofNat n.toNat)
     pure (ForInStep.yield s)
   |_=>stuck "bytesToString: byte expected" :Sem (ForInStep ByteArray)))).run P w = .ok ⟨acc.data++l8.toArray⟩ w
 |[],l8,acc,h=>by
  simp only[gQ,Option.some.injEq]at h
  subst h
  simp
 |v::l,l8,acc,h=>by
  unfold gQ at h
  split at h
  ·rename_i h1;cases h1
  ·rename_i k r hv
   injection hv with h1 h2
   subst h1;subst h2
   cases hr:gQ l with
   |none=>simp[hr]at h
   |some r8=>
    simp only[hr,Option.map_some,Option.some.injEq]at h
    subst h
    simp only[List.forIn_cons,Sem.run_bind,Sem.run_pure,Result.andThen_ok]
    rw[NV P w l r8 _ hr]
    simp[ByteArray.push]
  ·cases h
theorem Kw: ∀{l l':List Value} {b:List UInt8},eT R l l'→gQ l=some b→gQ l'=some b
 |_,_,_,.nil,h=>h
 |_,_,b,.cons (v:=v) (v':=v') (l:=l) (l':=l') hv hs,h=>by
  unfold gQ at h
  split at h
  ·rename_i h1;cases h1
  ·rename_i k r he
   injection he with h1 h2
   subst h1;subst h2
   rw[hv.qz]
   cases hr:gQ l with
   |none=>rw[hr]at h;simp at h
   |some r8=>simp only[gQ];rw[Kw hs hr];rw[hr]at h;exact h
  ·cases h
theorem Tv {v v':Value}{k:Nat}{b:Bool}(hv:VR R v v')(h:aU k v=some b):aU k v'=some b:=by
 rcases k with _|_|_|_|_|k <;> cases hv <;> first|exact h|(simp[aU]at h;done)|(simp[aU]at h ⊢;exact h)
theorem Vd {t:TypeId}{d:TypeDesc}{c x:Value}{k:Nat}{b:Bool}(hu:P.underlying t=some d)(hk:Dv d c=some k)(hx:aU k x=some b)(w:World):
 (Op.equal t x c).run P w = .ok b w:=by
 unfold Op.equal Op.maxDepth
 rw[show(10000:Nat)=9999+1 from rfl]
 unfold Op.equalIn
 simp only[Sem.run_bind,aH hu,Result.andThen_ok]
 unfold Dv at hk
 split at hk <;> simp at hk <;> subst hk <;> unfold aU at hx <;> split at hx <;> simp_all <;> (try subst_vars) <;> first
  |rfl
  |(rename_i a _;cases a <;> rfl)
  |skip
 all_goals (first|rfl|(rename_i a _ _ _;cases a <;> rfl)|(rename_i a _ _;cases a <;> rfl)|(rename_i a;cases a <;> rfl))
theorem V7 {t:TypeId}{d:TypeDesc}{c v:Value}{k:Nat}{b:Bool}{op:BinOp}{x:Operand}(hk:Dv d c=some k)(hx:aU k v=some b)(w:World):
 (eqGuard op t x (.const c) v c).run P w = .ok () w:=by
 unfold Dv at hk
 split at hk <;> simp at hk <;> subst hk <;> unfold aU at hx <;> split at hx <;> simp_all <;> cases op <;> first|rfl|(cases x <;> rfl)
theorem Nb {t:TypeId}{c u:Value}{k:Nat}{b:Bool}(hx:aU k u=some b):binOp .eql t u c=(do pure (.bool (←Op.equal t u c))):=by
 unfold aU at hx;split at hx <;> first|rfl|cases hx
theorem Nc {t:TypeId}{c u:Value}{k:Nat}{b:Bool}(hx:aU k u=some b):binOp .neq t u c=(do pure (.bool (!(←Op.equal t u c)))):=by
 unfold aU at hx;split at hx <;> first|rfl|cases hx
theorem Zg {dst:Option Tmp}{t yt ty:TypeId}{x y:Operand}{pos:String}{after:Array Edge}{g:Option (Nat×Bool)}{op:BinOp}{neg:Bool}{v:Value}
 (hop:(op = .eql∧neg=false)∨(op = .neq∧neg=true)) (hS:gT R H w) (hT:iC n R T a.tmps) (hok:mG (Op.binOp op t x y yt).operands.toList=true)
 (h:bB P T H (uT P (.binOp op t x y yt) ty neg t x y)=some v):
 ∃v',(execOp a.eval ⟨dst,.binOp op t x y yt,ty,pos,after,g⟩).run P w = .ok (.value v') w∧VR R v v':=by
 unfold uT at h
 split at h
 ·rename_i x' _ _ _ d c hu
  split at h
  ·rename_i k hk
   simp only[bB]at h
   cases hx:aU k (ev T x')with
   |none=>rw[hx]at h;simp at h
   |some b=>
    rw[hx]at h
    simp only[Option.map_some,Option.some.injEq]at h
    subst h
    have hox:okO x'=true:=aG hok (by simp[Op.operands])
    have hx':=Tv (bf hT hox) hx
    refine⟨.bool (b != neg),?_,.bool _⟩
    have he:a.eval (.const c)=c:=rfl
    simp only[execOp,Sem.run_bind,he]
    rw[V7 hk hx']
    simp only[Result.andThen_ok]
    rcases hop with⟨rfl,rfl⟩|⟨rfl,rfl⟩
    ·rw[Nb hx']
     simp[Vd hu hk hx']
    ·rw[Nc hx']
     simp[Vd hu hk hx']
  ·exact I8 (o:=⟨dst,.binOp op t x' (.const c) yt,ty,pos,after,g⟩) hT (by intro _ _;simp) hok h w
 ·split at h
  ·rename_i hsl
   rcases hop with⟨rfl,rfl⟩|⟨rfl,rfl⟩
   ·exact Ze hS hT hok hsl.1 h
   ·cases hsl.2
  ·exact I8 (o:=⟨dst,.binOp op t _ _ yt,ty,pos,after,g⟩) hT (by intro _ _;simp) hok h w
theorem Q3 {mv:Value}{es:List MapEntry}(hS:gT R H w)
 (hes:mF H mv=some es) {mv':Value} (hm:VR R mv mv'):
 (mv = .map none∧mv' = .map none∧es=[])∨∃(r:Nat) (cl:Nat) (es':Array MapEntry),mv = .map (some r)∧mv' = .map (some (R.blk r))∧R.dom r∧H.get r=some (.map es cl)∧w.heap[R.blk r]? =some (.map es' cl)∧dB R es es'.toList:=by
 unfold mF at hes
 split at hes
 ·simp only[Option.some.injEq]at hes
  subst hes
  cases hm
  exact .inl ⟨rfl,rfl,rfl⟩
 ·split at hes
  ·rename_i r _ es0 cl hg
   injection hes with hes
   subst hes
   cases hm with
   |map _ hr=>
    have ho:=hS.obj _ hr
    rw[hg]at ho
    obtain⟨es',hw,hrel⟩:=ho
    exact .inr ⟨_,cl,es',rfl,rfl,hr,hg,hw,hrel⟩
  ·cases hes
 ·cases hes
theorem dB.isEmpty {es:List MapEntry}{es':Array MapEntry}(h:dB R es es'.toList):es'.isEmpty=es.isEmpty:=by
 have:=h.length
 cases es with
 |nil=>simp only[List.length_nil,Array.length_toList]at this;simp[Array.isEmpty,←this]
 |cons x xs=>simp only[List.length_cons,Array.length_toList]at this;simp[Array.isEmpty,←this]
theorem Tw {dst:Option Tmp}{t ty:TypeId}{m k:Operand}{ok:Bool}{pos:String}{after:Array Edge}{g:Option (Nat×Bool)}{v zero:Value}{kt e:TypeId}
 (hS:gT R H w) (hT:iC n R T a.tmps) (hu:P.underlying t=some (.map kt e)) (hz:gz P e=some zero) (hom:okO m=true) (hok:okO k=true)
 (h:bB P T H (.lookup kt zero ok m k)=some v):
 ∃v',(execOp a.eval ⟨dst,.lookup t m k ok,ty,pos,after,g⟩).run P w = .ok (.value v') w∧VR R v v':=by
 simp only[bB]at h
 split at h
 ·rename_i es hes
  split at h
  ·rename_i hko
   obtain⟨hk1,hk2,hk3,hk4,d,hd⟩:=Ao hko
   have hkk:a.eval k=ev T k:=(bf hT hok).uU hk1
   have hent:=Q3 hS hes (bf hT hom)
   have DD:=jD hz w
   have hfin: ∀es':Array MapEntry,dB R es es'.toList→∃v',(do
    Instr.checkKey es'.isEmpty 10000 kt (a.eval k)
    match ←Instr.findKey kt (a.eval k) es'.toList with
    |some (_,v)=>do
     let (v,b) ←pure (v,true)
     pure (if ok then .tuple #[v,.bool b]else v)
    |none=>do
     let z ←zeroValue e
     let (v,b) ←pure (z,false)
     pure (if ok then .tuple #[v,.bool b]else v):Sem Value).run P w = .ok v' w∧VR R v v':=by
    intro es' hrel
    split at h
    ·rename_i i hfi
     obtain⟨h1,h2⟩:=tY (P:=P) (w:=w) hd hrel hk2 hfi
     split at h
     ·rename_i en hen
      obtain⟨en',hen',her⟩:=hrel.get i en hen
      injection h with h
      subst h
      refine⟨if ok then .tuple #[en'.val,.bool true]else en'.val,?_,?_⟩
      ·simp only[Sem.run_bind]
       rw[hrel.isEmpty,hkk,hk3]
       simp only[Result.andThen_ok]
       rw[h1]
       simp only[Option.bind_some,hen',Option.map_some,Result.andThen_ok]
       rfl
      ·cases ok
       ·exact her.val
       ·exact .tuple _ _ (.cons her.val (.cons (.bool _) .nil))
     ·cases h
    ·rename_i hfi
     obtain⟨h1,h2⟩:=tY (P:=P) (w:=w) hd hrel hk2 hfi
     injection h with h
     subst h
     refine⟨if ok then .tuple #[zero,.bool false]else zero,?_,?_⟩
     ·simp only[Sem.run_bind]
      rw[hrel.isEmpty,hkk,hk3]
      simp only[Result.andThen_ok]
      rw[h1]
      simp only[Option.bind_none,Result.andThen_ok,Sem.run_bind,DD.1]
      rfl
     ·have hg:=VR.qF R DD.2
      cases ok
      ·exact hg
      ·exact .tuple _ _ (.cons hg (.cons (.bool _) .nil))
    ·cases h
   simp only[execOp]
   unfold Instr.lookup
   rcases hent with⟨_,h2,rfl⟩|⟨r,cl,es',_,h2,_,_,h5,h6⟩
   ·obtain⟨v',h1,h3⟩:=hfin #[] .nil
    refine⟨v',?_,h3⟩
    simp only[Sem.run_bind,aH hu,Result.andThen_ok,h2,pure_bind]at h1 ⊢
    exact(congrArg (fun r:Result Value=>r.andThen fun a w'=>(pure (Next.value a):Sem Next).run P w') h1).trans rfl
   ·obtain⟨v',h1,h3⟩:=hfin es' h6
    refine⟨v',?_,h3⟩
    simp only[Sem.run_bind,aH hu,Result.andThen_ok,h2,iO P h5,pure_bind]at h1 ⊢
    exact(congrArg (fun r:Result Value=>r.andThen fun a w'=>(pure (Next.value a):Sem Next).run P w') h1).trans rfl
  ·cases h
 ·cases h
end
end
end Go.Proofs.YtofpmkhcbijilaaGreatDoorI
