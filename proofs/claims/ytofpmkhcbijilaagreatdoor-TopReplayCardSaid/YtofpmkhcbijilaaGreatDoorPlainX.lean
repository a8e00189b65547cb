/- Plain operations in the place of the model's, where the types allow it. / The code with plain operations; laws of calls and loops; a machine for closed code. / A law's arguments: what is read of them, in the ideal heap. / Walking through ideal code: contexts, heaps that grow, and the words for simp. -/
import Derived.Test.YtofpmkhcbijilaaGreatDoorIdealS
import Derived.Laws.StructEq
import Derived.WalkKit
import Derived.ProofKit
import Derived.OpenShut
import Derived.ShutString
import Derived.ChangeOld
import Derived.Below
import Derived.Carry
import Derived.ChangeCalls
import Derived.SizedLaws
import Derived.Lib.Overlaps
import Derived.Defers
import Derived.Laws.Externs
import Derived.Lib.Bytealg
namespace Go.Proofs.YtofpmkhcbijilaaGreatDoorI
open Go
set_option linter.unusedSimpArgs false
set_option linter.unusedVariables false
section
def DU (P:Program)(K:TypeId→Option (List KS)):List Field→Nat→Option (List KS)
 |[],_=>some []
 |f::fs,off=>match K f.type with
  |some r=>
   if f.name ≠ "_" ∧f.offset=off∧((o7 P f.type=some true∧bz P f.type=some r.length)∨(o7 P f.type=some false∧r.length=1))then (DU P K fs (off+r.length)).map (r ++ ·)else none
  |none=>none
def xu (P:Program):Nat→TypeId→Option (List KS)
 |0,_=>none
 |n+1,t=>match P.underlying t with
  |some .bool=>some [.b]
  |some (.int k)=>some [.i k]
  |some .string=>some [.s]
  |some (.struct fs)=>if P.stoodInHeld t=true then none else DU P (xu P n) fs.toList 0
  |some (.array m e)=>match xu P n e with
   |some [k]=>if o7 P e=some false∧bz P e=some 1 then some (List.replicate m k)else none
   |_=>none
  |_=>none
def KU (P:Program):bO→bO
 | .raw (.binOp op t x y yt) ty=>match P.underlying t with
   |some (.int _)|some .string=>.bin op x y
   |some .bool=>match op with
    | .eql=>.eqv false [] x y
    | .neq=>.eqv true [] x y
    |_=>.raw (.binOp op t x y yt) ty
   |some (.struct _)=>match xu P 20 t,P.eqGuardType P.depth t,op with
    |some (k::sh),false,.eql=>.eqv false (k::sh) x y
    |some (k::sh),false,.neq=>.eqv true (k::sh) x y
    |_,_,_=>.raw (.binOp op t x y yt) ty
   |_=>.raw (.binOp op t x y yt) ty
 | .raw (.unOp op _ x) _=>.un op x
 | .raw (.convert s d x) ty=>match P.underlying s,P.underlying d with
   |some (.int _),some (.int k)=>.conv k x
   |_,_=>.raw (.convert s d x) ty
 | .raw (.call ⟨.builtin b,args,nE⟩) ty=>match b,args.toList,nE.toList with
   | .len,[x],[t]=>match P.underlying t with
     |some .string=>.ay x
     |_=>.raw (.call ⟨.builtin b,args,nE⟩) ty
   | .max,[x,y],_=>.rQ true x y
   | .min,[x,y],_=>.rQ false x y
   |_,_,_=>.raw (.call ⟨.builtin b,args,nE⟩) ty
 | .raw (.index t x i) ty=>match P.underlying t with
   |some .string=>.dL x i
   |_=>.raw (.index t x i) ty
 | .raw (.slice t x lo hi none) ty=>match P.underlying t with
   |some .string=>.bX x lo hi
   |_=>.raw (.slice t x lo hi none) ty
 | .raw (.panic _) _=>.never
 |o=>o
theorem az {α:Type}{P:Program}{s:Sem α}{a:α}(h:aD P s=some a){β:Type}(f:α→Sem β):aD P (s >>= f)=aD P (f a):=by rw[aI,h];rfl
section
variable {P:Program} {T:Env} {H:aa}
theorem pU {o:Op}{ty:TypeId}{v:Value}(ho: ∀x ∈ o.operands.toList,nL (ev T x)=true)(hr:aD P (execOp (ev T) ⟨none,o,ty, "",#[],none⟩)=some (.value v))(hv:nL v=true):
 bB P T H (.raw o ty)=some v:=by
 have hall:o.operands.toList.all (fun x=>nL (ev T x))=true:=List.all_eq_true.2 ho
 simp only[bB,hall,if_true,hr,hv]
theorem ZB (a b:ByteArray):decide (a.data.toList=b.data.toList)=decide (a=b):=by
 have:(a.data.toList=b.data.toList)↔a=b:=by
  constructor
  ·intro h
   obtain⟨⟨x⟩⟩:=a
   obtain⟨⟨y⟩⟩:=b
   simp at h;rw[h]
  ·rintro rfl;rfl
 simp[this]
theorem TJ (a b:ByteArray):(Value.string (a++b))=ak (a.data.toList++b.data.toList):=by
 unfold ak
 congr 1
theorem Og {op:BinOp}{t yt ty:TypeId}{x y:Operand}{v:Value}(h:fq op (ev T x) (ev T y)=some v):
 bB P T H (.raw (.binOp op t x y yt) ty)=some v:=by
 generalize hx:ev T x=vx at h
 generalize hy:ev T y=vy at h
 have hs:nL vx=true→nL vy=true→∀z ∈ (Op.binOp op t x y yt).operands.toList,nL (ev T z)=true:=by
  intro h1 h2 z hz
  simp[Op.operands]at hz
  rcases hz with rfl|rfl
  ·rw[hx];exact h1
  ·rw[hy];exact h2
 unfold fq at h
 split at h
 ·rename_i k a k' b
  have hg:aD P (eqGuard op t x y (.int k a) (.int k' b))=some ():=by cases op <;> rfl
  refine pU (hs rfl rfl) ?_ ?_
  ·simp only[execOp,hx,hy]
   rw[aI,az hg]
   cases op <;> simp only[]at h <;> first
    |(split at h
      ·rename_i hk;subst hk
       simp only[kU,Option.some.injEq]at h
       first
        |(subst h;simp[binOp,Op.intArith,Op.intBits,Op.intCmp,aD,pure,Sem.pure] <;> (first|rfl|(congr 1;simp)|skip);done)
        |(split at h
          ·cases h
          ·rename_i h0;injection h with h;subst h;simp[binOp,Op.intDiv,h0,aD,pure];done)
        |(subst h;simp only[binOp,Op.intArith,Op.intBits,Op.intCmp,ne_eq,not_true_eq_false,if_false];rfl)
      ·cases h)
    |(simp only[O3]at h
      split at h
      ·cases h
      ·rename_i h0;simp at h;subst h;simp[binOp,Op.shift,h0,aD,pure];done)
  ·cases op <;> simp only[kU,O3]at h <;> (repeat' split at h) <;> first|(injection h with h;subst h;rfl)|cases h
 ·rename_i a b
  have hg:aD P (eqGuard op t x y (.string a) (.string b))=some ():=by cases op <;> rfl
  refine pU (hs rfl rfl) ?_ ?_
  ·simp only[execOp,hx,hy]
   rw[aI,az hg]
   have e1:(a.toList == b.toList)=decide (a.data.toList=b.data.toList):=by rw[ByteArray.toList_eq,ByteArray.toList_eq];rw[Bool.eq_iff_iff];simp
   have hb: ∀u,jI op a.data.toList b.data.toList=some u→aD P (binOp op t (.string a) (.string b))=some u:=by
    intro u hu
    cases op <;> simp only[jI]at hu <;> first
     |(injection hu with hu;subst hu;simp only[binOp,Op.stringOp,e1];simp[ByteArray.toList_eq,aD,pure];done)
     |(split at hu
       ·cases hu
       ·rename_i h0
        injection hu with hu;subst hu
        simp only[binOp,Op.stringOp]
        have h1: ¬ (((a.size+b.size:Nat):Int)>IntKind.i64.max):=by simpa using h0
        rw[if_neg h1,TJ];rfl)
     |cases hu
   rw[hb _ h];rfl
  ·cases op <;> simp only[jI]at h <;> (repeat' split at h) <;> first|(injection h with h;subst h;rfl)|cases h
 ·cases h
theorem KV {neg:Bool}{t yt ty:TypeId}{x y:Operand}{v:Value}(ht:P.underlying t=some .bool)(h:bB P T H (.eqv neg [] x y)=some v):
 bB P T H (.raw (.binOp (if neg then .neq else .eql) t x y yt) ty)=some v:=by
 simp only[bB]at h
 generalize hx:ev T x=vx at h
 generalize hy:ev T y=vy at h
 split at h
 ·simp at h
 ·rename_i a b
  simp at h
  subst h
  refine pU ?_ ?_ rfl
  ·intro z hz
   simp[Op.operands]at hz
   rcases hz with rfl|rfl
   ·rw[hx];rfl
   ·rw[hy];rfl
  ·have he:aD P (Op.equal t (.bool a) (.bool b))=some (a == b):=by
    unfold Op.equal Op.maxDepth
    rw[Op.equalIn,az (bT ht)]
    rfl
   simp only[execOp,hx,hy]
   cases neg
   ·have hg:aD P (eqGuard .eql t x y (.bool a) (.bool b))=some ():=rfl
    simp only[Bool.false_eq_true,if_false]
    rw[aI,az hg]
    simp only[binOp]
    rw[az he]
    simp[aD,pure]
   ·have hg:aD P (eqGuard .neq t x y (.bool a) (.bool b))=some ():=rfl
    simp only[if_true]
    rw[aI,az hg]
    simp only[binOp]
    rw[az he]
    simp[aD,pure]
 ·cases h
theorem ze {d:Nat}{t:TypeId}{fs:Array Field}{xs ys:Array Value}(ht:P.underlying t=some (.struct fs))(hp:P.stoodInHeld t=false):
 aD P (Op.equalIn (d+1) t (.agg xs) (.agg ys))=aD P (Op.eqFields d xs ys fs.toList):=by
 simp only[Op.equalIn]
 rw[az (bT ht)]
 simp only[]
 have hpr:aD P program=some P:=rfl
 rw[aI,hpr]
 simp only[Option.bind_some,hp,Bool.false_eq_true,if_false]
 rw[←Array.forIn_toList]
 generalize fs.toList=l
 clear ht
 induction l with
 |nil=>simp[Op.eqFields,aI,gL]
 |cons f l ih=>
  simp only[List.forIn_cons,Op.eqFields]
  split
  ·simp only[bind_assoc]
   rw[aI,aI]
   congr 1
   funext a
   rw[aI,aI]
   congr 1
   funext b
   rw[aI,aI]
   congr 1
   funext r
   cases r
   ·simp[gL]
   ·simp only[Bool.not_true,Bool.false_eq_true,if_false,pure_bind]
    exact ih
  ·simp only[pure_bind]
   exact ih
def ve (d:Nat)(e:TypeId)(n:Nat)(xs ys:Array Value):List Nat→Sem Bool
 |[]=>pure true
 |i::l=>do
  let r ←Op.equalIn d e (←part e xs (i*n)) (←part e ys (i*n))
  if !r then pure false else ve d e n xs ys l
theorem Aw {d m:Nat}{t e:TypeId}{xs ys:Array Value}(ht:P.underlying t=some (.array m e)){n:Nat}(hn:aD P (sizeOf e)=some n):
 aD P (Op.equalIn (d+1) t (.agg xs) (.agg ys))=aD P (ve d e n xs ys (List.range m)):=by
 simp only[Op.equalIn]
 rw[az (bT ht)]
 simp only[]
 rw[az hn]
 simp only[Std.Legacy.Range.forIn_eq_forIn_range',Std.Legacy.Range.size,Nat.sub_zero,Nat.add_sub_cancel,Nat.div_one]
 rw[←List.range_eq_range']
 generalize List.range m=l
 clear ht
 induction l with
 |nil=>simp[ve,aI,gL]
 |cons i l ih=>
  simp only[List.forIn_cons,ve]
  simp only[bind_assoc]
  rw[aI,aI]
  congr 1
  funext a
  rw[aI,aI]
  congr 1
  funext b
  rw[aI,aI]
  congr 1
  funext r
  cases r
  ·simp[gL]
  ·simp only[Bool.not_true,Bool.false_eq_true,if_false,pure_bind]
   exact ih
theorem fT: ∀{sh:List KS} {l:List Value},bS sh l=true→l.length=sh.length
 |[],[],_=>rfl
 |[],_::_,h=>by simp[bS]at h
 |k::sh,[],h=>by cases k <;> simp[bS]at h
 |k::sh,v::l,h=>by
  have:bS sh l=true:=by
   cases k <;> cases v <;> simp[bS]at h <;> first|exact h|exact h.2
  simp[fT this]
theorem pq: ∀{a b:List KS} {l:List Value},bS (a++b) l=true→∃x y,l=x++y∧bS a x=true∧bS b y=true
 |[],b,l,h=>⟨[],l,rfl,rfl,h⟩
 |k::a,b,[],h=>by cases k <;> simp[bS]at h
 |k::a,b,v::l,h=>by
  have hsub:bS (a++b) l=true∧∀z,bS a z=true→bS (k::a) (v::z)=true:=by
   cases k <;> cases v <;> simp[bS]at h ⊢ <;> first|exact h|exact⟨h.2,fun z hz=>⟨h.1,hz⟩⟩|exact⟨h,fun z hz=>hz⟩
  obtain⟨x,y,rfl,h1,h2⟩:=pq hsub.1
  exact⟨v::x,y,rfl,hsub.2 x h1,h2⟩
theorem Ay: ∀{a c b d:List Value},a.length=c.length→kF (a++b) (c++d)=(kF a c&&kF b d)
 |[],[],_,_,_=>by simp[kF]
 |[],_::_,_,_,h=>by simp at h
 |_::_,[],_,_,h=>by simp at h
 |x::a,y::c,b,d,h=>by simp[kF,Ay (a:=a) (c:=c) (by simpa using h),Bool.and_assoc]
theorem jE {t:TypeId}{b:Bool}(h:o7 P t=some b):aD P (isAgg t)=some b:=by
 unfold o7 at h
 cases hu:P.underlying t with
 |none=>simp[hu]at h
 |some d=>
  unfold isAgg
  rw[az (bT hu)]
  cases d <;> simp[hu]at h <;> subst h <;> rfl
theorem qP {t:TypeId}{n:Nat}(h:bz P t=some n):aD P (sizeOf t)=some n:=by
 unfold bz at h
 cases hi:P.info? t with
 |none=>simp[hi]at h
 |some i=>
  simp[hi]at h
  unfold sizeOf typeInfo
  simp only[bind_assoc]
  have hpr:aD P program=some P:=rfl
  rw[aI,hpr]
  simp only[Option.bind_some,hi]
  subst h
  rfl
theorem ZC: ∀(n:Nat) (t:TypeId) (sh:List KS),xu P n t=some sh→∀D,n≤D→∀cx cy:List Value,bS sh cx=true→bS sh cy=true →
 (o7 P t=some true→aD P (Op.equalIn D t (.agg cx.toArray) (.agg cy.toArray))=some (kF cx cy)) ∧
 (o7 P t=some false→∀vx vy,cx=[vx]→cy=[vy]→aD P (Op.equalIn D t vx vy)=some (kF cx cy)):=by
 intro n
 induction n with
 |zero=>intro t sh h;simp[xu]at h
 |succ n ih=>
  intro t sh h D hD cx cy hx hy
  obtain⟨d,rfl⟩: ∃d,D=d+1:=⟨D-1,by omega⟩
  simp only[xu]at h
  split at h
  ·rename_i hu
   injection h with h;subst h
   refine⟨fun ha=>by simp[o7,hu]at ha,fun _ vx vy h1 h2=> ?_⟩
   subst h1;subst h2
   cases vx <;> simp[bS]at hx
   cases vy <;> simp[bS]at hy
   simp only[Op.equalIn]
   rw[az (bT hu)]
   simp[kF,qm,aD,pure]
  ·rename_i k hu
   injection h with h;subst h
   refine⟨fun ha=>by simp[o7,hu]at ha,fun _ vx vy h1 h2=> ?_⟩
   subst h1;subst h2
   cases vx <;> simp[bS]at hx
   cases vy <;> simp[bS]at hy
   subst hx;subst hy
   simp only[Op.equalIn]
   rw[az (bT hu)]
   simp[kF,qm,aD,pure]
   rfl
  ·rename_i hu
   injection h with h;subst h
   refine⟨fun ha=>by simp[o7,hu]at ha,fun _ vx vy h1 h2=> ?_⟩
   subst h1;subst h2
   cases vx <;> simp[bS]at hx
   cases vy <;> simp[bS]at hy
   rename_i a b
   simp only[Op.equalIn]
   rw[az (bT hu)]
   have:(a == b)=decide (a=b):=by
    rw[beq_toListBytes,ByteArray.toList_eq,ByteArray.toList_eq,←ZB,Bool.eq_iff_iff];simp
   simp[kF,qm,aD,pure,this]
  ·rename_i fs hu
   split at h
   ·cases h
   rename_i hst
   have hst:P.stoodInHeld t=false:=by simpa using hst
   refine⟨fun _=> ?_,fun ha=>by simp[o7,hu]at ha⟩
   rw[ze hu hst]
   have key: ∀(l:List Field) (off:Nat) (s:List KS),DU P (xu P n) l off=some s→∀px py ux uy:List Value,px.length=off→py.length=off→bS s ux=true→bS s uy=true →
    aD P (Op.eqFields d (px++ux).toArray (py++uy).toArray l)=some (kF ux uy):=by
    intro l
    induction l with
    |nil=>
     intro off s hs px py ux uy _ _ h1 h2
     simp only[DU,Option.some.injEq]at hs
     subst hs
     have:=fT h1;have:=fT h2
     cases ux <;> cases uy <;> simp_all [Op.eqFields,kF,gL]
    |cons f l ihl=>
     intro off s hs px py ux uy hpx hpy h1 h2
     simp only[DU]at hs
     split at hs
     case h_2=>cases hs
     rename_i r hr
     split at hs
     case isFalse=>cases hs
     rename_i hcond
     obtain⟨hn,hoff,hag⟩:=hcond
     simp only[Option.map_eq_some_iff]at hs
     obtain⟨s',hs',rfl⟩:=hs
     obtain⟨x1,x2,rfl,k1,k2⟩:=pq h1
     obtain⟨y1,y2,rfl,m1,m2⟩:=pq h2
     have lx:=fT k1
     have ly:=fT m1
     have hrest:=ihl (off+r.length) s' hs' (px++x1) (py++y1) x2 y2 (by simp[hpx,lx]) (by simp[hpy,ly]) k2 m2
     simp only[List.append_assoc]at hrest
     rw[Ay (lx.trans ly.symm)]
     simp only[Op.eqFields,if_pos hn]
     have hk:=ih f.type r hr d (by omega) x1 y1 k1 m1
     have fin: ∀va vb,aD P (part f.type (px++(x1++x2)).toArray f.offset)=some va→aD P (part f.type (py++(y1++y2)).toArray f.offset)=some vb→aD P (Op.equalIn d f.type va vb)=some (kF x1 y1) →
      aD P (part f.type (px++(x1++x2)).toArray f.offset >>= fun a=>part f.type (py++(y1++y2)).toArray f.offset >>= fun b=>Op.equalIn d f.type a b >>= fun r=>if (!r)=true then pure false else Op.eqFields d (px++(x1++x2)).toArray (py++(y1++y2)).toArray l)=some (kF x1 y1&&kF x2 y2):=by
      intro va vb e1 e2 e3
      rw[az e1,az e2,az e3]
      cases kF x1 y1
      ·simp[gL]
      ·simpa using hrest
     rcases hag with⟨ha,hsz⟩|⟨ha,hl1⟩
     ·refine fin (.agg x1.toArray) (.agg y1.toArray) ?_ ?_ (hk.1 ha)
      ·unfold part
       rw[az (jE ha)]
       simp only[if_true]
       rw[az (qP hsz),hoff,←hpx,←lx]
       simp[aD,pure]
      ·unfold part
       rw[az (jE ha)]
       simp only[if_true]
       rw[az (qP hsz),hoff,←hpy,←ly]
       simp[aD,pure]
     ·match x1,lx,y1,ly with
      |[va],_,[vb],_=>
       refine fin va vb ?_ ?_ (hk.2 ha va vb rfl rfl)
       ·unfold part
        rw[az (jE ha),hoff,←hpx]
        simp[aD,pure]
       ·unfold part
        rw[az (jE ha),hoff,←hpy]
        simp[aD,pure]
      |[],l1,_,_=>simp[hl1]at l1
      |_::_::_,l1,_,_=>simp[hl1]at l1
      |[_],_,[],l1=>simp[hl1]at l1
      |[_],_,_::_::_,l1=>simp[hl1]at l1
   exact key fs.toList 0 sh h [] [] cx cy rfl rfl hx hy
  ·rename_i m e hu
   split at h
   case h_2=>cases h
   rename_i k hk
   split at h
   case isFalse=>cases h
   rename_i hc
   injection h with h
   subst h
   refine⟨fun _=> ?_,fun ha=>by simp[o7,hu]at ha⟩
   rw[Aw hu (qP hc.2)]
   have lx:=fT hx
   have ly:=fT hy
   rw[List.length_replicate]at lx ly
   have key: ∀(j i:Nat) (px py ux uy:List Value),i+j=m→px.length=i→py.length=i→bS (List.replicate j k) ux=true→bS (List.replicate j k) uy=true →
    aD P (ve d e 1 (px++ux).toArray (py++uy).toArray (List.range' i j))=some (kF ux uy):=by
    intro j
    induction j with
    |zero=>
     intro i px py ux uy _ _ _ h1 h2
     have:=fT h1;have:=fT h2
     cases ux <;> cases uy <;> simp_all [ve,kF,gL]
    |succ j ihj=>
     intro i px py ux uy hij hpx hpy h1 h2
     have h1':bS ([k]++List.replicate j k) ux=true:=h1
     have h2':bS ([k]++List.replicate j k) uy=true:=h2
     obtain⟨x1,x2,rfl,k1,k2⟩:=pq h1'
     obtain⟨y1,y2,rfl,m1,m2⟩:=pq h2'
     have l1:=fT k1
     have l2:=fT m1
     match x1,l1,y1,l2 with
     |[va],_,[vb],_=>
      have he:=(ih e [k] hk d (by omega) [va] [vb] k1 m1).2 hc.1 va vb rfl rfl
      have hrest:=ihj (i+1) (px++[va]) (py++[vb]) x2 y2 (by omega) (by simp[hpx]) (by simp[hpy]) k2 m2
      simp only[List.append_assoc]at hrest
      rw[Ay (a:=[va]) (c:=[vb]) rfl]
      rw[List.range'_succ]
      simp only[ve]
      have e1:aD P (part e (px++([va]++x2)).toArray (i*1))=some va:=by
       unfold part
       rw[az (jE hc.1),Nat.mul_one,←hpx]
       simp[aD,pure]
      have e2:aD P (part e (py++([vb]++y2)).toArray (i*1))=some vb:=by
       unfold part
       rw[az (jE hc.1),Nat.mul_one,←hpy]
       simp[aD,pure]
      rw[az e1,az e2,az he]
      cases kF [va] [vb]
      ·simp[gL]
      ·simpa using hrest
   have:=key m 0 [] [] cx cy (by omega) rfl rfl hx hy
   rw[←List.range_eq_range']at this
   exact this
  ·cases h
theorem Az: ∀{sh:List KS} {l:List Value},bS sh l=true→l.all l9=true
 |[],[],_=>rfl
 |[],_::_,h=>by simp[bS]at h
 |k::sh,[],h=>by cases k <;> simp[bS]at h
 |k::sh,v::l,h=>by
  have:l9 v=true∧bS sh l=true:=by
   cases k <;> cases v <;> simp[bS]at h <;> first|exact⟨rfl,h⟩|exact⟨rfl,h.2⟩
  simp[this.1,Az this.2]
theorem Oh {neg:Bool}{t yt ty:TypeId}{x y:Operand}{v:Value}{sh:List KS}{fs:Array Field}(hu:P.underlying t=some (.struct fs))(hk:xu P 20 t=some sh)(hg:P.eqGuardType P.depth t=false)(hne:sh≠[])
 (h:bB P T H (.eqv neg sh x y)=some v):bB P T H (.raw (.binOp (if neg then .neq else .eql) t x y yt) ty)=some v:=by
 simp only[bB]at h
 generalize hx:ev T x=vx at h
 generalize hy:ev T y=vy at h
 split at h
 ·rename_i a b
  split at h
  case isFalse=>cases h
  rename_i hc
  injection h with h
  subst h
  refine pU ?_ ?_ rfl
  ·intro z hz
   simp[Op.operands]at hz
   rcases hz with rfl|rfl
   ·rw[hx];exact Az hc.2.1
   ·rw[hy];exact Az hc.2.2
  ·have ha:o7 P t=some true:=by simp[o7,hu]
   have he:aD P (Op.equal t (.agg a) (.agg b))=some (kF a.toList b.toList):=by
    unfold Op.equal Op.maxDepth
    exact(ZC 20 t sh hk 10000 (by omega) a.toList b.toList hc.2.1 hc.2.2).1 ha
   have hgd: ∀op,aD P (eqGuard op t x y (.agg a) (.agg b))=some ():=by
    intro op
    have hpr:aD P program=some P:=rfl
    cases op <;> simp[eqGuard,aI,hpr,hg,gL]
   simp only[execOp,hx,hy]
   cases neg
   ·simp only[Bool.false_eq_true,if_false]
    rw[aI,az (hgd _)]
    simp only[binOp]
    rw[az he]
    simp[aD,pure]
   ·simp only[if_true]
    rw[aI,az (hgd _)]
    simp only[binOp]
    rw[az he]
    simp[aD,pure]
 ·simp[hne]at h
 ·cases h
theorem ZE {op:UnOp}{t ty:TypeId}{x:Operand}{v:Value}(h:bB P T H (.un op x)=some v):bB P T H (.raw (.unOp op t x) ty)=some v:=by
 simp only[bB]at h
 generalize hx:ev T x=vx at h
 unfold sP at h
 have hs:nL vx=true→∀z ∈ (Op.unOp op t x).operands.toList,nL (ev T z)=true:=by
  intro h1 z hz
  simp[Op.operands]at hz
  subst hz;rw[hx];exact h1
 split at h
 ·injection h with h;subst h
  exact pU (hs rfl) (by simp only[execOp,hx];rfl) rfl
 ·injection h with h;subst h
  exact pU (hs rfl) (by simp only[execOp,hx];rfl) rfl
 ·simp only[kU,Option.some.injEq]at h;subst h
  exact pU (hs rfl) (by simp only[execOp,hx];rfl) rfl
 ·cases h
theorem TK {s d ty:TypeId}{k k0:IntKind}{x:Operand}{v:Value}(hs:P.underlying s=some (.int k0))(hd:P.underlying d=some (.int k))(h:bB P T H (.conv k x)=some v):bB P T H (.raw (.convert s d x) ty)=some v:=by
 simp only[bB]at h
 split at h
 ·rename_i kk n hx
  injection h with h;subst h
  refine pU (by intro z hz;simp[Op.operands]at hz;subst hz;rw[hx];rfl) ?_ rfl
  simp only[execOp,hx,convert]
  rw[aI,az (bT hs),az (bT hd)]
  rfl
 ·cases h
theorem Pq {t ty:TypeId}{x:Operand}{args:Array Operand}{nE:Array TypeId}{v:Value}(ht:P.underlying t=some .string)(ha:args.toList=[x])(hy:nE.toList=[t])(h:bB P T H (.ay x)=some v):
 bB P T H (.raw (.call ⟨.builtin .len,args,nE⟩) ty)=some v:=by
 obtain rfl:args = #[x]:=by cases args;simp_all
 obtain rfl:nE = #[t]:=by cases nE;simp_all
 simp only[bB]at h
 split at h
 ·rename_i s hx
  injection h with h;subst h
  refine pU (by intro z hz;simp[Op.operands,Call.operands]at hz;subst hz;rw[hx];rfl) ?_ rfl
  have e:execOp (ev T) ⟨none,.call ⟨.builtin .len,#[x],#[t]⟩,ty, "",#[],none⟩=(do pure (.value (←Builtin.len_ #[t] ty #[ev T x]))):=by
   simp[execOp,resolve,invoke,builtin]
  rw[e,hx]
  unfold Builtin.len_
  rw[aI]
  simp only[List.getElem?_toArray,List.getElem?_cons_zero]
  rw[az (bT ht)]
  rfl
 ·cases h
theorem Oi {mx:Bool}{ty:TypeId}{x y:Operand}{args:Array Operand}{nE:Array TypeId}{v:Value}(ha:args.toList=[x,y])(h:bB P T H (.rQ mx x y)=some v):
 bB P T H (.raw (.call ⟨.builtin (if mx then .max else .min),args,nE⟩) ty)=some v:=by
 obtain rfl:args = #[x,y]:=by cases args;simp_all
 simp only[bB]at h
 split at h
 ·rename_i k a k' b hx hy
  injection h with h;subst h
  refine pU (by intro z hz;simp[Op.operands,Call.operands]at hz;rcases hz with rfl|rfl;rw[hx];rfl;rw[hy];rfl) ?_ rfl
  cases mx
  ·have e:execOp (ev T) ⟨none,.call ⟨.builtin .min,#[x,y],nE⟩,ty, "",#[],none⟩=(do pure (.value (←Builtin.min_ nE ty #[ev T x,ev T y]))):=by
    simp[execOp,resolve,invoke,builtin]
   simp only[Bool.false_eq_true,if_false]
   rw[e,hx,hy];rfl
  ·have e:execOp (ev T) ⟨none,.call ⟨.builtin .max,#[x,y],nE⟩,ty, "",#[],none⟩=(do pure (.value (←Builtin.max_ nE ty #[ev T x,ev T y]))):=by
    simp[execOp,resolve,invoke,builtin]
   simp only[if_true]
   rw[e,hx,hy];rfl
 ·cases h
theorem Ps {t ty:TypeId}{x i:Operand}{v:Value}(ht:P.underlying t=some .string)(h:bB P T H (.dL x i)=some v):bB P T H (.raw (.index t x i) ty)=some v:=by
 simp only[bB]at h
 split at h
 ·rename_i s k j hx hi
  split at h
  ·rename_i hj
   simp only[Option.map_eq_some_iff]at h
   obtain⟨b,hb,rfl⟩:=h
   refine pU (by intro z hz;simp[Op.operands]at hz;rcases hz with rfl|rfl;rw[hx];rfl;rw[hi];rfl) ?_ rfl
   have hb':s[j.toNat]? =some b:=by
    have hlt:j.toNat<s.data.toList.length:=(List.getElem?_eq_some_iff.1 hb).1
    have e:s[j.toNat]? =s.data.toList[j.toNat]? :=by
     simp only[getElem?_def]
     have h1:j.toNat<s.size:=by simpa using hlt
     simp[h1,hlt]
     rfl
    rw[e,hb]
   simp only[execOp,hx,hi,Instr.index]
   have hii:aD P (asIntOf (.int k j))=some (k,j):=rfl
   rw[aI,az hii]
   simp only[]
   rw[az (bT ht)]
   simp only[hj,if_true,hb']
   rfl
  ·cases h
 ·cases h
theorem extract_data (s:ByteArray)(l h:Nat):(Value.string (s.extract l h))=ak ((s.data.toList.drop l).take (h-l)):=by
 unfold ak
 congr 1
 apply ByteArray.ext
 rw[ByteArray.data_extract]
 obtain⟨⟨d⟩⟩:=s
 simp
theorem KW {T:Env}{x:Operand}{n y:Nat}{code:BoundsCode}(h:gK T x=some n)(hy:n≤y):aD P (Instr.sliceBound (ev T x) y code)=some n:=by
 unfold gK at h
 split at h
 ·rename_i k i hx
  split at h
  ·rename_i h0
   injection h with h
   rw[hx]
   unfold Instr.sliceBound
   have hii:aD P (asIntOf (.int k i))=some (k,i):=rfl
   rw[az hii]
   simp only[]
   rw[if_pos ⟨h0,by omega⟩,h];rfl
  ·cases h
 ·cases h
theorem Rk {t ty:TypeId}{x:Operand}{lo hi:Option Operand}{v:Value}(ht:P.underlying t=some .string)(h:bB P T H (.bX x lo hi)=some v):bB P T H (.raw (.slice t x lo hi none) ty)=some v:=by
 simp only[bB]at h
 split at h
 ·rename_i s hx
  split at h
  ·rename_i l hh m hb
   split at h
   ·rename_i hle
    injection h with h;subst h
    unfold bH at hb
    simp only[Option.isSome_none,Bool.false_eq_true,if_false]at hb
    have ZF: ∀y n,gK T y=some n→nL (ev T y)=true:=by
     intro y n hy
     unfold gK at hy
     split at hy
     ·rename_i hq;rw[hq];rfl
     ·cases hy
    have hsize:s.data.toList.length=s.size:=by simp
    rw[hsize]at hb hle
    have hcase: ∀(A B:Option Nat),(match some (none:Option Nat),B,A with|some m,some h,some l=>if l≤h∧h≤m.getD h then some (l,h,m)else none|_,_,_=>none)=some (l,hh,m)→A=some l∧B=some hh∧l≤hh:=by
     intro A B hq
     cases A <;> cases B <;> simp at hq
     obtain⟨h1,h2,h3,_⟩:=hq
     subst h2;subst h3
     exact⟨rfl,rfl,h1⟩
    obtain⟨h1,h2,h3⟩:=hcase _ _ hb
    clear hb
    have hrun:aD P (Instr.slice t (ev T x) (lo.map (ev T)) (hi.map (ev T)) none)=some (.string (s.extract l hh)):=by
     unfold Instr.slice
     rw[hx,az (bT ht)]
     simp only[Option.isSome_none,Bool.false_eq_true,if_false]
     have hbd:aD P (Instr.sliceBounds false s.size s.size (lo.map (ev T)) (hi.map (ev T)) none)=some (l,hh,s.size):=by
      unfold Instr.sliceBounds
      simp only[pure_bind]
      cases hi with
      |none=>
       simp only[Option.some.injEq]at h2
       subst h2
       cases lo with
       |none=>simp only[Option.some.injEq]at h1;subst h1;rfl
       |some y=>
        simp only[Option.map_some,Option.map_none,pure_bind]
        rw[az (KW h1 h3)];rfl
      |some z=>
       simp only[Option.map_some,pure_bind]
       rw[az (KW h2 hle)]
       cases lo with
       |none=>simp only[Option.some.injEq]at h1;subst h1;rfl
       |some y=>
        simp only[Option.map_some]
        rw[az (KW h1 h3)];rfl
     rw[az hbd]
     rfl
    refine pU ?_ ?_ rfl
    ·intro z hz
     cases lo <;> cases hi <;> simp[Op.operands]at hz <;> first
      |(subst hz;rw[hx];rfl)
      |(rcases hz with rfl|rfl
        ·rw[hx];rfl
        ·first|exact ZF _ _ h1|exact ZF _ _ h2)
      |(rcases hz with rfl|rfl|rfl
        ·rw[hx];rfl
        ·exact ZF _ _ h1
        ·exact ZF _ _ h2)
    ·have e:aD P (execOp (ev T) ⟨none,.slice t x lo hi none,ty, "",#[],none⟩)=aD P (do pure (.value (←Instr.slice t (ev T x) (lo.map (ev T)) (hi.map (ev T)) none)):Sem Next):=by
      simp only[execOp,Option.map_none]
      rw[aI,aI]
      congr 1
      unfold Instr.sliceAt
      rw[az (bT ht)]
     rw[e,az hrun,extract_data];rfl
   ·cases h
  ·cases h
 ·cases h
end
end
section
section
variable {P:Program}
theorem Rl {T:Env}{H:aa}{io:bO}{v:Value}(h:bB P T H (KU P io)=some v):bB P T H io=some v:=by
 unfold KU at h
 split at h
 ·split at h
  ·exact Og h
  ·exact Og h
  ·rename_i hu
   split at h
   ·exact KV (neg:=false) hu h
   ·exact KV (neg:=true) hu h
   ·exact h
  ·rename_i fs hu
   split at h
   ·rename_i k sh hk hg;exact Oh (neg:=false) hu hk hg (by simp) h
   ·rename_i k sh hk hg;exact Oh (neg:=true) hu hk hg (by simp) h
   ·exact h
  ·exact h
 ·exact ZE h
 ·split at h
  ·rename_i hs hd;exact TK hs hd h
  ·exact h
 ·split at h
  ·rename_i ha hy
   split at h
   ·rename_i hu;exact Pq hu ha hy h
   ·exact h
  ·rename_i ha;exact Oi (mx:=true) ha h
  ·rename_i ha;exact Oi (mx:=false) ha h
  ·exact h
 ·split at h
  ·rename_i hu;exact Ps hu h
  ·exact h
 ·split at h
  ·rename_i hu;exact Rk hu h
  ·exact h
 ·simp[bB]at h
 ·exact h
theorem KX (io:bO):(KU P io).kind=io.kind∧(io.kind ≠ .rd→KU P io=io):=by
 unfold KU
 split <;> (repeat' split) <;> exact⟨rfl,fun h=>by first|rfl|exact absurd rfl h⟩
structure Pt (P:Program)(φ:bO→bO):Prop where
 rd: ∀T H io v,bB P T H (φ io)=some v→bB P T H io=some v
 kind: ∀io,(φ io).kind=io.kind
 fix: ∀io,io.kind ≠ .rd→φ io=io
theorem Vh:Pt P (KU P):=⟨fun _ _ _ _ h=>Rl h,fun io=>(KX io).1,fun io=>(KX io).2⟩
theorem ZG:Pt P id:=⟨fun _ _ _ _ h=>h,fun _=>rfl,fun _ _=>rfl⟩
def lD (φ:bO→bO)(o:aF):aF:={o with op:=φ o.op}
def xw (φ:bO→bO):fP→fP
 | .ops l=>.ops (l.map (lD φ))
 | .draw l=>.draw (l.map fun x=>(lD φ x.1,x.2.map (lD φ)))
 | .seq a b=>.seq (xw φ a) (xw φ b)
 | .cond c a b=>.cond c (xw φ a) (xw φ b)
 | .block id a=>.block id (xw φ a)
 | .loop a=>.loop (xw φ a)
 |c=>c
theorem KY:lD id=id:=rfl
theorem rR: ∀c,xw id c=c
 | .skip=>rfl
 | .ops l=>by simp[xw,KY]
 | .draw l=>by simp[xw,KY]
 | .seq a b=>by simp[xw,rR a,rR b]
 | .cond c a b=>by simp[xw,rR a,rR b]
 | .block id a=>by simp[xw,rR a]
 | .loop a=>by simp[xw,rR a]
 | .exit _=>rfl
 | .ret=>rfl
def wW (C C':bu):Prop:=∀f a H K K',(∀v H',K v H'→K' v H')→C f a H K→C' f a H K'
variable {C C':bu} {φ:bO→bO}
theorem Ro {H:aa}{K K':Value→aa→Prop}(hK: ∀v H',K v H'→K' v H'){x:Value}(h:uR H K x):uR H K' x:=by
 unfold uR at h
 split at h
 ·exact hK _ _ h
 ·split at h
  ·rename_i hg;simp only[uR,hg];exact hK _ _ h
  ·exact h.elim
 ·exact h.elim
theorem Rp {H:aa}{K K':Value→aa→Prop}(hK: ∀v H',K v H'→K' v H'){x:Value}(h:kG H K x):kG H K' x:=by
 unfold kG at h
 split at h
 ·split at h
  ·rename_i hg;simp only[kG,hg];exact hK _ _ h
  ·rename_i hg
   split at h
   ·rename_i hg2;simp only[kG,hg,hg2];exact⟨h.1,fun k=>hK _ _ (h.2.1 k),fun e he hn=>hK _ _ (h.2.2 e he hn)⟩
   ·exact h.elim
  ·exact h.elim
 ·exact h.elim
theorem Rq {H:aa}{K K':Value→aa→Prop}(hK: ∀v H',K v H'→K' v H'){x:Value}(h:sS H K x):sS H K' x:=by
 unfold sS at h
 split at h
 ·split at h
  ·rename_i hg
   split at h
   ·rename_i hg2
    simp only[sS,hg,hg2]
    obtain⟨h1,pre,s,h2,e,h3,h4⟩:=h
    exact⟨h1,pre,s,h2,e,h3,hK _ _ h4⟩
   ·exact h.elim
  ·exact h.elim
 ·exact h.elim
theorem KZ (hφ:Pt P φ)(hC:wW C C'){T:Env}{H:aa}{o:bO}{K K':Value→aa→Prop}(hK: ∀v H',K v H'→K' v H')(h:Dq P C T H (φ o) K):Dq P C' T H o K':=by
 unfold Dq at h ⊢
 rw[hφ.kind]at h
 cases hk:o.kind with
 |rd=>
  rw[hk]at h
  obtain⟨v,h1,h2⟩:=h
  exact⟨v,hφ.rd _ _ _ _ h1,hK _ _ h2⟩
 |al=>
  rw[hk,hφ.fix o (by rw[hk];simp)]at h
  obtain⟨r,h1,h2⟩:=h
  exact⟨r,h1,hK _ _ h2⟩
 |ac=>
  rw[hk,hφ.fix o (by rw[hk];simp)]at h
  obtain⟨r,h1,h2⟩:=h
  exact⟨r,h1,hK _ _ h2⟩
 |ca=>
  rw[hk,hφ.fix o (by rw[hk];simp)]at h
  simp only[]at h ⊢
  unfold jM at h ⊢
  split at h
  ·exact hC _ _ _ _ _ hK h
  ·split at h
   ·exact hC _ _ _ _ _ hK h
   ·exact h.elim
  ·exact Ro hK h
  ·exact Rp hK h
  ·exact Rq hK h
  ·split at h
   ·split at h
    ·exact hC _ _ _ _ _ hK h
    ·exact h.elim
   ·exact h.elim
  ·exact h.elim
theorem K3 (hφ:Pt P φ)(hC:wW C C'): ∀(l:List aF) {K K':Env→aa→Prop} {T:Env} {H:aa},(∀T H,K T H→K' T H)→fu P C (l.map (lD φ)) K T H→fu P C' l K' T H
 |[],K,K',T,H,hK,h=>hK _ _ h
 |o::os,K,K',T,H,hK,h=>by
  simp only[List.map_cons,fu,lD]at h ⊢
  cases hw:bV T o.guard with
  |true=>
   rw[hw]at h
   exact KZ hφ hC (fun v H' k=>K3 hφ hC os hK k) h
  |false=>rw[hw]at h;exact K3 hφ hC os hK h
theorem K4 (hφ:Pt P φ){T:Env}{H:aa}{o:aF}(h:bE P T H (lD φ o)):bE P T H o:=by
 unfold bE at h ⊢
 simp only[lD]at h
 split at h
 ·rename_i d hg hd
  exact hφ.rd _ _ _ _ h
 ·rename_i hg hd
  obtain⟨v,hv⟩:=Option.isSome_iff_exists.1 h
  rw[hφ.rd _ _ _ _ hv];rfl
 ·trivial
theorem Aa (hφ:Pt P φ){T:Env}{H:aa}: ∀(l:List aF),dh P T H (l.map (lD φ))→dh P T H l
 |[],_=>trivial
 |[o],h=>K4 hφ h
 |o::p::os,h=>⟨K4 hφ h.1,Aa hφ (p::os) h.2⟩
theorem yH (hφ:Pt P φ)(hC:wW C C'): ∀(l:List (aF×List aF)) {K K':Env→aa→Prop} {T:Env} {H:aa},(∀T H,K T H→K' T H) →
 bP P C (l.map fun x=>(lD φ x.1,x.2.map (lD φ))) K T H→bP P C' l K' T H
 |[],K,K',T,H,hK,h=>hK _ _ h
 |(o,st)::os,K,K',T,H,hK,h=>by
  simp only[List.map_cons,bP,lD]at h ⊢
  cases hw:bV T o.guard with
  |true=>
   rw[hw]at h
   cases st with
   |nil=>exact KZ hφ hC (fun v H' k=>yH hφ hC os hK k) h
   |cons p r=>exact KZ hφ hC (fun v H' k=>⟨Aa hφ (p::r) k.1,yH hφ hC os hK k.2⟩) h
  |false=>rw[hw]at h;exact yH hφ hC os hK h
theorem pu (hφ:Pt P φ)(hC:wW C C'): ∀(c:fP) {Q Q':Exit→Env→aa→Prop} {T:Env} {H:aa},(∀e T H,Q e T H→Q' e T H)→wz P C (xw φ c) Q T H→wz P C' c Q' T H
 | .skip,Q,Q',T,H,hQ,h=>hQ _ _ _ h
 | .ops l,Q,Q',T,H,hQ,h=>K3 hφ hC l (hQ _) h
 | .draw l,Q,Q',T,H,hQ,h=>yH hφ hC l (hQ _) h
 | .seq a b,Q,Q',T,H,hQ,h=>pu hφ hC a (fun e T H k=>by
     cases e with
     |normal=>exact pu hφ hC b hQ k
     |_=>exact hQ _ _ _ k) h
 | .cond c a b,Q,Q',T,H,hQ,h=>by
   simp only[xw,wz]at h ⊢
   split at h
   ·exact pu hφ hC a hQ h
   ·exact pu hφ hC b hQ h
   ·exact h.elim
 | .block id a,Q,Q',T,H,hQ,h=>pu hφ hC a (fun e T H k=>by
     cases e with
     |exit id'=>
      simp only[wY]at k ⊢
      split at k
      ·rename_i he;rw[if_pos he];exact hQ _ _ _ k
      ·rename_i he;rw[if_neg he];exact hQ _ _ _ k
     |_=>exact hQ _ _ _ k) h
 | .loop a,Q,Q',T,H,hQ,h=>by
   intro X hX
   refine h X fun T H hb=>hX T H (pu hφ hC a (fun e T H k=> ?_) hb)
   cases e with
   |normal=>exact k
   |_=>exact hQ _ _ _ k
 | .exit id,Q,Q',T,H,hQ,h=>hQ _ _ _ h
 | .ret,Q,Q',T,H,hQ,h=>hQ _ _ _ h
theorem ZH (hC:wW C C')(c:fP){Q Q':Exit→Env→aa→Prop}{T:Env}{H:aa}(hQ: ∀e T H,Q e T H→Q' e T H)(h:wz P C c Q T H):wz P C' c Q' T H:=
 pu ZG hC c hQ (by rw[rR];exact h)
theorem AA (hφ:Pt P φ)(hC:wW C C'){g:ah}{args:List Value}{H:aa}{K K':Value→aa→Prop}(hK: ∀v H',K v H'→K' v H')(h:Du P C {g with body:=xw φ g.body} args H K):Du P C' g args H K':=by
 refine⟨h.1,pu hφ hC g.body (fun e T H k=> ?_) h.2⟩
 cases e with
 |normal=>obtain⟨r,h1,h2⟩:=k;exact⟨r,h1,hK _ _ h2⟩
 |ret=>obtain⟨r,h1,h2⟩:=k;exact⟨r,h1,hK _ _ h2⟩
 |_=>exact k.elim
theorem AB (hC:wW C C'){g:ah}{args:List Value}{H:aa}{K K':Value→aa→Prop}(hK: ∀v H',K v H'→K' v H')(h:Du P C g args H K):Du P C' g args H K':=
 AA ZG hC hK (by rw[rR];exact h)
variable {IP:FuncId→Option ah} {X:bu}
def inner (Y:bu):bu:=fun f a H K=> ∀K',(∀v H',K v H'→K' v H')→Y f a H K'
theorem ZI (Y:bu):wW (inner Y) Y:=fun _ _ _ _ K' hK h=>h K' hK
theorem Pv (hX:wW X X){Y:bu}(hY: ∀f args H K,(X f args H K∨∃g,IP f=some g∧Du P Y g args H K)→Y f args H K):
 ∀f args H K,(X f args H K∨∃g,IP f=some g∧Du P (inner Y) g args H K)→inner Y f args H K:=by
 intro f args H K h K' hK
 rcases h with h|⟨g,hg,hb⟩
 ·exact hY _ _ _ _ (.inl (hX _ _ _ _ _ hK h))
 ·exact hY _ _ _ _ (.inr ⟨g,hg,AB (ZI Y) hK hb⟩)
theorem eH.mono (hX:wW X X):wW (eH P IP X) (eH P IP X):=by
 intro f a H K K' hK h Y hY
 exact h (inner Y) (Pv hX hY) K' hK
theorem eH.fold (hX:wW X X){f:FuncId}{g:ah}{args:List Value}{H:aa}{K:Value→aa→Prop}(hg:IP f=some g)(h:Du P (eH P IP X) g args H K):eH P IP X f args H K:=by
 intro Y hY
 have hle:wW (eH P IP X) Y:=fun f a H K K' hK h=>(eH.mono hX f a H K K' hK h) Y hY
 exact hY _ _ _ _ (.inr ⟨g,hg,AB hle (fun _ _ k=>k) h⟩)
theorem eH.ext {f:FuncId}{args:List Value}{H:aa}{K:Value→aa→Prop}(h:X f args H K):eH P IP X f args H K:=fun _ hY=>hY _ _ _ _ (.inl h)
def TL (P:Program)(g:ah):ah:={g with body:=xw (KU P) g.body}
def jF (P:Program)(f:FuncId):Option ah:=(qM P f).map (TL P)
theorem eH.ref (hX:wW X X){IP':FuncId→Option ah}(ZA: ∀f g,IP' f=some g→∃g0,IP f=some g0∧g=TL P g0):wW (eH P IP' X) (eH P IP X):=by
 intro f a H K K' hK h
 refine eH.mono hX f a H K K' hK (h (eH P IP X) ?_)
 intro f a H K hh
 rcases hh with hh|⟨g,hg,hb⟩
 ·exact eH.ext hh
 ·obtain⟨g0,h1,rfl⟩:=ZA f g hg
  exact eH.fold hX h1 (AA Vh (eH.mono hX) (fun _ _ k=>k) hb)
theorem Oj (hm:P.follows .mixedOrders=true)(ZA: ∀f g,IP f=some g→jF P f=some g)(hX:jh P X)(hXm:wW X X):jh P (eH P IP X):=by
 have h1:=Rj hm (IP:=fun f=>if (IP f).isSome then qM P f else none) (X:=X) (fun f g h=>by
  split at h
  ·exact h
  ·cases h) hX
 intro f args H K h
 refine h1 f args H K (eH.ref hXm (IP:=fun f=>if (IP f).isSome then qM P f else none) (fun f g hg=> ?_) f args H K K (fun _ _ k=>k) h)
 have:=ZA f g hg
 unfold jF at this
 simp only[Option.map_eq_some_iff]at this
 obtain⟨g0,h2,h3⟩:=this
 exact⟨g0,by simp[hg,h2],h3.symm⟩
theorem cz (hC:wW C C){a:fP}{Q:Exit→Env→aa→Prop}(I:Nat→Env→aa→Prop)(n:Nat){T:Env}{H:aa}(h0:I n T H)
 (round: ∀n T H,I n T H→wz P C a (Kk (fun T' H'=> ∃m,m<n∧I m T' H') Q) T H):wz P C (.loop a) Q T H:=by
 intro X hX
 have key: ∀n T H,I n T H→X T H:=by
  intro n
  induction n using Nat.strongRecOn with
  |_ n ih=>
   intro T H hI
   refine hX T H (ZH hC a (fun e T' H' k=> ?_) (round n T H hI))
   cases e with
   |normal=>obtain⟨m,h1,h2⟩:=k;exact ih m h1 _ _ h2
   |_=>exact k
 exact key n T H h0
end
end
section
inductive D where
 |b (x:Bool)
 |i (k:IntKind) (n:Int)
 |s (x:ByteArray)
 |nil
 |sl (len:Nat) (es:List (List D))
inductive Sh where
 |b
 |i (k:IntKind)
 |s
 |sl (bytes size:Nat) (e:List Sh)
mutual
def okD:Sh→D→Prop
 | .b,.b _=>True
 | .i k,.i k' n=>k'=k∧(Lit.int k n).wf=true
 | .s,.s x=>x.size≤reachBytes
 | .sl _ _ _,.nil=>True
 | .sl bytes size e,.sl len es=>len≤es.length∧es.length*bytes≤reachBytes∧es.length≤maxLen∧∀d ∈ es,d.length=size∧iP e d
 |_,_=>False
def iP:List Sh→List D→Prop
 |[],[]=>True
 |q::ss,d::ds=>okD q d∧iP ss ds
 |_,_=>False
end
inductive QV (H:aa):Value→D→Prop
 |b (x):QV H (.bool x) (.b x)
 |i (k n):QV H (.int k n) (.i k n)
 |s (x):QV H (.string x) (.s x)
 |nil:QV H (.slice none 0 0) .nil
 |z (id o):QV H (.slice (some ⟨id,o,none⟩) 0 0) (.sl 0 [])
 |sl (id len es vs):es≠[]→es.length<dQ→H.get id=some (.cells vs true)→vs.length=es.flatten.length→(∀(j:Nat) v d,vs[j]? =some v→es.flatten[j]? =some d→QV H v d) →
   QV H (.slice (some ⟨id,0,none⟩) len es.length) (.sl len es)
def jy (H:aa)(vs:List Value)(ds:List D):Prop:=vs.length=ds.length∧∀(j:Nat) v d,vs[j]? =some v→ds[j]? =some d→QV H v d
theorem QV.mono {H H':aa}(hs:H.sub H'){v:Value}{d:D}(h:QV H v d):QV H' v d:=by
 induction h with
 |b x=>exact .b x
 |i k n=>exact .i k n
 |s x=>exact .s x
 |nil=>exact .nil
 |z id o=>exact .z id o
 |sl id len es vs h1 h2 h3 h4 _ ih=>exact .sl id len es vs h1 h2 (hs _ _ h3) h4 ih
theorem jy.mono {H H':aa}(hs:H.sub H'){vs:List Value}{ds:List D}(h:jy H vs ds):jy H' vs ds:=⟨h.1,fun j v d h1 h2=>(h.2 j v d h1 h2).mono hs⟩
theorem jy.nil (H:aa):jy H [] []:=⟨rfl,by simp⟩
theorem jy.one {H:aa}{v:Value}{d:D}(h:QV H v d):jy H [v] [d]:=⟨rfl,fun j u e h1 h2=>by
 cases j with
 |zero=>simp at h1 h2;subst h1;subst h2;exact h
 |succ j=>simp at h1⟩
theorem jy.append {H:aa}{vs us:List Value}{ds es:List D}(h:jy H vs ds)(k:jy H us es):jy H (vs++us) (ds++es):=by
 refine⟨by simp[h.1,k.1],fun j v d h1 h2=> ?_⟩
 by_cases hj:j<vs.length
 ·rw[List.getElem?_append_left hj]at h1
  rw[List.getElem?_append_left (by rw[←h.1];exact hj)]at h2
  exact h.2 j v d h1 h2
 ·rw[List.getElem?_append_right (by omega)]at h1
  rw[List.getElem?_append_right (by rw[←h.1];omega),←h.1]at h2
  exact k.2 _ v d h1 h2
theorem Hf: ∀{a b:List Sh} {x y:List D},iP a x→iP b y→iP (a++b) (x++y)
 |[],_,[],_,_,h=>h
 |[],_,_::_,_,h,_=>by simp[iP]at h
 |_::_,_,[],_,h,_=>by simp[iP]at h
 |_::a,b,d::x,y,h,k=>by
  simp only[iP,List.cons_append]at h ⊢
  exact⟨h.1,Hf h.2 k⟩
theorem Hg: ∀{a:List Sh} {x:List D},iP a x→x.length=a.length
 |[],[],_=>rfl
 |[],_::_,h=>by simp[iP]at h
 |_::_,[],h=>by simp[iP]at h
 |_::_,_::_,h=>by simp only[iP]at h;simp[Hg h.2]
def ZJ (P:Program)(K:TypeId→Option (List Sh)):List Field→Nat→Option (List Sh)
 |[],_=>some []
 |f::fs,off=>match K f.type with
  |some r=>if f.offset=off∧P.cellsOf f.type=r.length then (ZJ P K fs (off+r.length)).map (r ++ ·)else none
  |none=>none
def shT (P:Program):Nat→TypeId→Option (List Sh)
 |0,_=>none
 |n+1,t=>match P.underlying t with
  |some .bool=>some [.b]
  |some (.int k)=>some [.i k]
  |some .string=>some [.s]
  |some (.slice e)=>match shT P n e with
   |some l=>if P.cellsOf e=l.length∧0<l.length then some [.sl (P.bytesOf e) l.length l]else none
   |none=>none
  |some (.struct fs)=>match ZJ P (shT P n) fs.toList 0 with
   |some l=>if P.cellsOf t=l.length then some l else none
   |none=>none
  |_=>none
structure Laid (R:Ren)(H:aa)(w:World):Prop where
 zU:gT R H w
 ro: ∀b,¬ bL H b
section
variable {w:World} {R:Ren} {H:aa}
theorem FD (hS:gT R H w)(o:dU):H.sub (H.alloc o):=by
 intro b q hb
 have hlt:b<H.next:=by
  rcases Nat.lt_or_ge b H.next with h|h
  ·exact h
  ·rw[hS.wf b h]at hb;cases hb
 rw[fM H o hlt];exact hb
theorem Laid.add (h:Laid R H w){blk base size len:Nat}{o:dU}(ho:sV (R.bW H.next blk base size len) (some o) H.next w)(hro: ¬ bL (H.alloc o) H.next):Laid (R.bW H.next blk base size len) (H.alloc o) w:=by
 have hnd: ¬ R.dom H.next:=fun hd=>Nat.lt_irrefl _ (h.zU.lt _ hd)
 have hle:R.le (R.bW H.next blk base size len):=Ren.uf hnd
 have hrw: ∀b,¬ bL (H.alloc o) b:=by
  intro b hb
  by_cases hbn:b=H.next
  ·subst hbn;exact hro hb
  ·refine h.ro b ?_
   unfold bL at hb ⊢
   have:(H.alloc o).get b=H.get b:=by show(if b=H.next then some o else H.get b)=_;rw[if_neg hbn]
   rw[this]at hb;exact hb
 refine⟨⟨?_,?_,fun b c _ _ _ _ hor=>(hor.elim (hrw b) (hrw c)).elim,?_⟩,hrw⟩
 ·rintro b (hb|rfl)
  ·exact Nat.lt_succ_of_lt (h.zU.lt b hb)
  ·exact Nat.lt_succ_self _
 ·rintro b hb
  by_cases hbn:b=H.next
  ·subst hbn;rw[mh];exact ho
  ·have hb':=hb.resolve_right hbn
   have:(H.alloc o).get b=H.get b:=by show(if b=H.next then some o else H.get b)=_;rw[if_neg hbn]
   rw[this]
   exact(h.zU.obj b hb').move hle hb' fun _ hx=>hx
 ·intro b hb
  have hb':H.next+1≤b:=hb
  show(if b=H.next then some o else H.get b)=_
  rw[if_neg (by omega)];exact h.zU.wf b (by omega)
end
def Lays (w:World)(R:Ren)(H:aa)(cs:List Value)(P:List D→Prop):Prop:=
 ∃R' H' vs ds,R.le R'∧H.sub H'∧Laid R' H' w∧eT R' vs cs∧jy H' vs ds∧P ds
theorem aa.ug {A B C:aa}(h:A.sub B)(k:B.sub C):A.sub C:=fun b o hb=>k b o (h b o hb)
section
variable {Hd:Type} {enc:TypeId×Value→Hd} {P:Program} {w:World}
theorem qQ {e:TypeId}: ∀{l:List (DataW Hd)} {d:DataW Hd},d ∈ l→∀x ∈ d.weights P e,x ∈ DataW.weightsAll P e l
 |[],_,h,_,_=>by simp at h
 |a::l,d,h,x,hx=>by
  simp only[DataW.weightsAll]
  rcases List.mem_cons.1 h with rfl|h
  ·exact List.mem_append_left _ hx
  ·exact List.mem_append_right _ (qQ h x hx)
theorem Wo: ∀(n:Nat) (t:TypeId) (cs:List Value) (x:DataW Hd×List MemPlace) (m:Nat) (sh:List Sh),DataW.trod enc P w 0 (fun _=>true) true n t cs=some x→shT P m t=some sh →
 (∀y ∈ x.1.weights P t,y≤reachBytes)→∀R H,Laid R H w→Lays w R H cs (iP sh):=by
 intro n
 induction n with
 |zero=>intro t cs x m sh h;simp[DataW.trod]at h
 |succ n ih=>
  intro t cs x m sh h hsh hw R H hL
  cases m with
  |zero=>simp[shT]at hsh
  |succ m=>
   simp only[shT]at hsh
   split at hsh
   ·rename_i hu
    injection hsh with hsh;subst hsh
    obtain⟨b,rfl,_⟩:=DataW.trod_bool hu h
    exact⟨R,H,[.bool b],[.b b],R.le_refl,fun _ _ h=>h,hL,.cons (.bool b) .nil,jy.one (.b b),by simp[iP,okD]⟩
   ·rename_i k hu
    injection hsh with hsh;subst hsh
    obtain⟨z,rfl,_,hz⟩:=DataW.trod_int hu h
    exact⟨R,H,[.int k z],[.i k z],R.le_refl,fun _ _ h=>h,hL,.cons (.int k z) .nil,jy.one (.i k z),by simp[iP,okD,hz]⟩
   ·rename_i hu
    injection hsh with hsh;subst hsh
    obtain⟨s,rfl,rfl,hs⟩:=DataW.trod_string hu h
    refine⟨R,H,[.string s],[.s s],R.le_refl,fun _ _ h=>h,hL,.cons (.string s) .nil,jy.one (.s s),?_⟩
    have:=hw s.data.toList.length (by simp[DataW.weights])
    simp only[iP,okD,and_true]
    simpa using this
   ·
    rename_i e hu
    split at hsh
    case h_2=>cases hsh
    rename_i l hl
    split at hsh
    case isFalse=>cases hsh
    rename_i hcell
    injection hsh with hsh;subst hsh
    rcases DataW.trod_slice hu h with⟨rfl,_⟩|⟨a,len,cap,elems,rest,n',hn,rfl,rfl,_,hlc,hcm,hel,hget,hsp,_⟩
    ·exact⟨R,H,[.slice none 0 0],[.nil],R.le_refl,fun _ _ h=>h,hL,.cons .tT .nil,jy.one .nil,by simp[iP,okD]⟩
    ·injection hn with hn
     subst hn
     obtain⟨hrl,hrest⟩:=hsp rfl
     have hwb:(elems.length+rest.length)*P.bytesOf e≤reachBytes:=by
      refine hw _ ?_
      simp only[DataW.weights,hu,List.length_map]
      exact List.mem_cons_self ..
     by_cases hc0:cap=0
     ·
      subst hc0
      have hl0:len=0:=by omega
      subst hl0
      have hl2:=hL.add (blk:=a.block) (base:=0) (size:=0) (len:=0) (o:=.dead) trivial (by unfold bL;rw[mh];simp)
      refine⟨_,_,[.slice (some ⟨H.next,0,none⟩) 0 0],[.sl 0 []],Ren.uf (fun hd=>Nat.lt_irrefl _ (hL.zU.lt _ hd)),FD hL.zU _,hl2,.cons (.lI _ _ _ (.inr rfl)) .nil,jy.one (.z _ _),?_⟩
      simp[iP,okD]
     ·have hone: ∀i,i<cap→∃ci y,w.cells? 0 (a.add (i*P.cellsOf e)) (P.cellsOf e)=some ci∧DataW.trod enc P w 0 (fun _=>true) true n e ci=some y∧∀z ∈ y.1.weights P e,z≤reachBytes:=by
       intro i hi
       by_cases hil:i<len
       ·have h1:=hget i hil
        have h2:elems[i]? =some elems[i]:=by simp[hel,hil]
        rw[h2]at h1
        rw[Option.bind_eq_some_iff]at h1
        obtain⟨ci,h3,h4⟩:=h1
        refine⟨ci,_,h3,h4,fun z hz=>hw z ?_⟩
        simp only[DataW.weights,hu]
        exact List.mem_cons_of_mem _ (List.mem_append_left _ (qQ (List.mem_map.2 ⟨_,List.getElem_mem _,rfl⟩) z hz))
       ·have h1:=hrest (i-len) (by omega)
        rw[show len+(i-len)=i by omega]at h1
        have h2:rest[i-len]? =some (rest[i-len]'(by omega)):=by simp
        rw[h2]at h1
        rw[Option.bind_eq_some_iff]at h1
        obtain⟨ci,h3,h4⟩:=h1
        refine⟨ci,_,h3,h4,fun z hz=>hw z ?_⟩
        simp only[DataW.weights,hu]
        exact List.mem_cons_of_mem _ (List.mem_append_right _ (qQ (List.mem_map.2 ⟨_,List.getElem_mem _,rfl⟩) z hz))
      have hsz:0<P.cellsOf e:=by omega
      obtain⟨blk,off,spot⟩:=a
      have hc0': ∃c t fr,w.heap[blk]? =some (.cells c t fr)∧spot=none:=by
       obtain⟨ci,y,h1,_⟩:=hone 0 (by omega)
       obtain⟨_,h2,h3⟩:=World.cells?_some h1
       have h4:=h3 0 hsz
       have h5:ci[0]? =some (ci[0]'(by omega)):=by simp
       rw[h5]at h4
       simp only[Nat.zero_mul,Addr.add,if_true,World.cell?]at h4
       split at h4
       ·rename_i c t fr hb
        refine⟨c,t,fr,hb,?_⟩
        cases spot with
        |none=>rfl
        |some q=>simp at h4
       ·cases h4
      obtain⟨c,t,fr,hblk,rfl⟩:=hc0'
      have hadd: ∀p q:Nat,(Addr.add (Addr.add ⟨blk,off,none⟩ p) q)=⟨blk,off+p+q,none⟩:=by
       intro p q
       unfold Addr.add
       by_cases hp:p=0 <;> by_cases hq:q=0 <;> simp[hp,hq]
      have hci: ∀i ci,w.cells? 0 (Addr.add ⟨blk,off,none⟩ (i*P.cellsOf e)) (P.cellsOf e)=some ci→ci=((c.toList.drop off).drop (i*P.cellsOf e)).take (P.cellsOf e)∧off+i*P.cellsOf e+P.cellsOf e≤c.size:=by
       intro i ci h1
       obtain⟨_,h2,h3⟩:=World.cells?_some h1
       have h4: ∀j,j<P.cellsOf e→c[off+i*P.cellsOf e+j]? =ci[j]? :=by
        intro j hj
        rw[←h3 j hj,hadd]
        simp[World.cell?,hblk]
       constructor
       ·apply List.ext_getElem?
        intro j
        by_cases hj:j<P.cellsOf e
        ·rw[←h4 j hj,List.getElem?_take,if_pos hj,List.getElem?_drop,List.getElem?_drop]
         simp[Nat.add_assoc]
        ·rw[List.getElem?_eq_none (by omega),List.getElem?_eq_none (by simp;omega)]
       ·have h5:=h4 (P.cellsOf e-1) (by omega)
        have h6:ci[P.cellsOf e-1]? =some (ci[P.cellsOf e-1]'(by omega)):=by simp
        rw[h6]at h5
        have:=(Array.getElem?_eq_some_iff.1 h5).1
        omega
      have many: ∀k,k≤cap→∃R' H' vs es,R.le R'∧H.sub H'∧Laid R' H' w∧eT R' vs ((c.toList.drop off).take (k*P.cellsOf e))∧jy H' vs (List.flatten es)∧es.length=k∧∀d ∈ es,d.length=l.length∧iP l d:=by
       intro k
       induction k with
       |zero=>intro _;exact⟨R,H,[],[],R.le_refl,fun _ _ h=>h,hL,by simp;exact .nil,jy.nil H,rfl,by simp⟩
       |succ k ihk=>
        intro hk
        obtain⟨R1,H1,vs,es,a1,a2,a3,a4,a5,a6,a7⟩:=ihk (by omega)
        obtain⟨ci,y,h1,h2,h3⟩:=hone k (by omega)
        obtain⟨R2,H2,us,ds,b1,b2,b3,b4,b5,b6⟩:=ih e ci y m l h2 hl h3 R1 H1 a3
        have hcc:=(hci k ci h1).1
        refine⟨R2,H2,vs++us,es++[ds],a1.trans b1,aa.ug a2 b2,b3,?_,?_,by simp[a6],?_⟩
        ·rw[Nat.add_mul,Nat.one_mul,List.take_add,←hcc]
         exact eT.append b4 (a4.mono b1)
        ·simp only[List.flatten_append,List.flatten_cons,List.flatten_nil,List.append_nil]
         exact(a5.mono b2).append b5
        ·intro d hd
         rcases List.mem_append.1 hd with hd|hd
         ·exact a7 d hd
         ·simp at hd;subst hd;exact⟨Hg b6,b6⟩
      obtain⟨R1,H1,vs,es,a1,a2,a3,a4,a5,a6,a7⟩:=many cap (Nat.le_refl _)
      have hend:off+cap*P.cellsOf e≤c.size:=by
       obtain⟨ci,y,h1,_⟩:=hone (cap-1) (by omega)
       have:=(hci _ ci h1).2
       have h2:(cap-1)*P.cellsOf e+P.cellsOf e=cap*P.cellsOf e:=by
        rw[←Nat.succ_mul];congr 1;omega
       omega
      have hvl:vs.length=cap*P.cellsOf e:=by
       rw[a4.length];simp;omega
      have Zd:sV (R1.bW H1.next blk off c.size (cap*P.cellsOf e)) (some (.cells vs true)) H1.next w:=by
       have hnd: ¬ R1.dom H1.next:=fun hd=>Nat.lt_irrefl _ (a3.zU.lt _ hd)
       refine⟨by simp[Ren.bW,hvl],by simp[Ren.bW,hvl];omega,c,t,fr,by simpa[Ren.bW]using hblk,by simp[Ren.bW],?_,by simp⟩
       have:(R1.bW H1.next blk off c.size (cap*P.cellsOf e)).base H1.next=off:=by simp[Ren.bW]
       rw[this,hvl]
       exact a4.mono (Ren.uf hnd)
      have hl2:=a3.add Zd (by unfold bL;rw[mh];simp)
      have hnd: ¬ R1.dom H1.next:=fun hd=>Nat.lt_irrefl _ (a3.zU.lt _ hd)
      have qbS:cap<dQ:=by have:maxLen=9223372036854775807:=rfl;unfold dQ;omega
      refine⟨_,_,[.slice (some ⟨H1.next,0,none⟩) len cap],[.sl len es],a1.trans (Ren.uf hnd),aa.ug a2 (FD a3.zU _),hl2,.cons ?_ .nil,jy.one ?_,?_⟩
      ·have:=VR.gm (R:=R1.bW H1.next blk off c.size (cap*P.cellsOf e)) H1.next 0 len cap (.inr rfl) qbS
       simpa[Ren.bW]using this
      ·rw[←a6]
       have a5':=a5.mono (FD a3.zU (.cells vs true))
       refine .sl H1.next len es vs (by intro he;rw[he]at a6;simp at a6;omega) (by omega) (mh _ _) a5'.1 a5'.2
      ·simp only[iP,okD,and_true]
       refine⟨by omega,?_,by omega,?_⟩
       ·rw[a6]
        have:elems.length+rest.length=cap:=by omega
        rw[this]at hwb;exact hwb
       ·intro d hd;exact a7 d hd
   ·
    rename_i fs hu
    split at hsh
    case h_2=>cases hsh
    rename_i l hl
    split at hsh
    case isFalse=>cases hsh
    rename_i hcell
    injection hsh with hsh;subst hsh
    obtain⟨xs,n',hn,rfl,hlen,hxl,hget⟩:=DataW.trod_struct hu h
    injection hn with hn
    subst hn
    have key: ∀(fl:List Field) (off:Nat) (q:List Sh) (ys:List (DataW Hd×List MemPlace)),ZJ P (shT P m) fl off=some q→ys.length=fl.length →
     (∀(i:Nat) (f:Field),fl[i]? =some f→DataW.trod enc P w 0 (fun _=>true) true n f.type ((cs.drop f.offset).take (P.cellsOf f.type))=ys[i]?) →
     (∀z ∈ DataW.weightsEach P (fl.map (·.type)) (ys.map (·.1)),z≤reachBytes)→∀R H,Laid R H w→Lays w R H ((cs.drop off).take q.length) (iP q):=by
     intro fl
     induction fl with
     |nil=>
      intro off q ys hq hyl _ _ R H hL
      simp only[ZJ,Option.some.injEq]at hq
      subst hq
      exact⟨R,H,[],[],R.le_refl,fun _ _ h=>h,hL,by simp;exact .nil,jy.nil H,by simp[iP]⟩
     |cons f fl ihf=>
      intro off q ys hq hyl hg hww R H hL
      simp only[ZJ]at hq
      split at hq
      case h_2=>cases hq
      rename_i r hr
      split at hq
      case isFalse=>cases hq
      rename_i hcond
      simp only[Option.map_eq_some_iff]at hq
      obtain⟨q',hq',rfl⟩:=hq
      cases ys with
      |nil=>simp at hyl
      |cons y ys=>
       have h1:=hg 0 f (by simp)
       simp only[List.getElem?_cons_zero]at h1
       simp only[List.map_cons,DataW.weightsEach]at hww
       obtain⟨R1,H1,vs,ds,a1,a2,a3,a4,a5,a6⟩:=ih f.type _ y m r h1 hr (fun z hz=>hww z (List.mem_append_left _ hz)) R H hL
       obtain⟨R2,H2,us,es,b1,b2,b3,b4,b5,b6⟩:=ihf (off+r.length) q' ys hq' (by simpa using hyl) (fun i g hi=>by simpa using hg (i+1) g (by simpa using hi)) (fun z hz=>hww z (List.mem_append_right _ hz)) R1 H1 a3
       refine⟨R2,H2,vs++us,ds++es,a1.trans b1,aa.ug a2 b2,b3,?_,(a5.mono b2).append b5,Hf a6 b6⟩
       rw[List.length_append,List.take_add,List.drop_drop]
       rw[hcond.1,hcond.2]at a4
       exact eT.append b4 (a4.mono b1)
    have:=key fs.toList 0 l xs hl (by simpa using hxl) (fun i f hi=>hget i f (by simpa using hi)) (by
     intro z hz
     refine hw z ?_
     simp only[DataW.weights,hu]
     exact hz) R H hL
    rw[List.drop_zero,List.take_of_length_le (by omega)]at this
    exact this
   ·cases hsh
def xx (H:aa)(agg:Bool)(v:Value)(ds:List D):Prop:=match agg with
 |true=> ∃us,v = .agg us∧jy H us.toList ds
 |false=>jy H [v] ds
def nP (H:aa):List (Bool×List Sh)→List Value→List (List D)→Prop
 |[],[],[]=>True
 |(a,sh)::r,v::vs,d::Hl=>xx H a v d∧iP sh d∧nP H r vs Hl
 |_,_,_=>False
theorem xx.mono {H H':aa}(hs:H.sub H'){a:Bool}{v:Value}{ds:List D}(h:xx H a v ds):xx H' a v ds:=by
 cases a with
 |true=>obtain⟨us,h1,h2⟩:=h;exact⟨us,h1,h2.mono hs⟩
 |false=>exact jy.mono hs h
theorem nP.mono {H H':aa}(hs:H.sub H'): ∀{p:List (Bool×List Sh)} {vs:List Value} {Hl:List (List D)},nP H p vs Hl→nP H' p vs Hl
 |[],[],[],_=>trivial
 |(_,_)::_,_::_,_::_,h=>⟨h.1.mono hs,h.2.1,nP.mono hs h.2.2⟩
 |[],_::_,_,h=>h.elim
 |[],[],_::_,h=>h.elim
 |_::_,[],_,h=>h.elim
 |_::_,_::_,[],h=>h.elim
def Rs (P:Program):List TypeId→Option (List (Bool×List Sh))
 |[]=>some []
 |t::ts=>match o7 P t,shT P 20 t,Rs P ts with
  |some a,some sh,some r=>some ((a,sh)::r)
  |_,_,_=>none
theorem Rt {base:Nat}: ∀(ts:List TypeId) (vs:List Value) (ds:List (DataW Hd)) (p:List MemPlace) (Pw:List (Bool×List Sh)),DataW.TrodAll enc P w 0 (fun _=>true) true ts vs ds p→Rs P ts=some Pw →
 (∀(j:Nat) t v,ts[j]? =some t→vs[j]? =some v→Value.okWide P w .any base t v)→(∀z ∈ DataW.weightsEach P ts ds,z≤reachBytes)→∀R H,Laid R H w →
 ∃R' H' us Hl,R.le R'∧H.sub H'∧Laid R' H' w∧eT R' us vs∧nP H' Pw us Hl
 |[],vs,ds,p,Pw,h,hp,_,_,R,H,hL=>by
  obtain⟨rfl,rfl,_⟩:=Go.ChangeShapes.trodAll_nil h
  simp only[Rs,Option.some.injEq]at hp
  subst hp
  exact⟨R,H,[],[],R.le_refl,fun _ _ h=>h,hL,.nil,trivial⟩
 |t::ts,vs,ds,p,Pw,h,hp,hv,hw,R,H,hL=>by
  obtain⟨v,vs,d,ds,a,b,rfl,rfl,rfl,h1,h2⟩:=Go.ChangeShapes.trodAll_cons h
  simp only[Rs]at hp
  split at hp
  case h_2=>cases hp
  rename_i ag sh r hag hsh hr
  injection hp with hp
  subst hp
  simp only[DataW.weightsEach]at hw
  obtain⟨fuel,hf⟩:=h1
  obtain⟨R1,H1,us,es,a1,a2,a3,a4,a5,a6⟩:=Wo fuel t _ _ 20 sh hf hsh (fun z hz=>hw z (List.mem_append_left _ hz)) R H hL
  obtain⟨R2,H2,vs',Hl,b1,b2,b3,b4,b5⟩:=Rt ts vs ds b r h2 hr (fun j t v hj hj'=>hv (j+1) t v (by simpa using hj) (by simpa using hj')) (fun z hz=>hw z (List.mem_append_right _ hz)) R1 H1 a3
  have hok:=hv 0 t v (by simp) (by simp)
  unfold Value.okWide at hok
  unfold o7 at hag
  have hcase:(ag=true∧∃cs,v = .agg cs)∨(ag=false∧v.cells.toList=[v]):=by
   have hone:v.cells.toList.length=1→(∀cs,v ≠ .agg cs)→v.cells.toList=[v]:=by
    intro _ hne
    cases v <;> first|rfl|exact absurd rfl (hne _)
   cases hu:P.underlying t with
   |none=>rw[hu]at hag;simp at hag
   |some dsc=>
    rw[hu]at hag hok
    cases dsc <;> simp at hag <;> subst hag <;> first
     |(obtain⟨cs,hcs,_⟩:=hok;exact .inl ⟨rfl,cs,hcs⟩)
     |(refine .inr ⟨rfl,?_⟩
       cases v <;> first
        |rfl
        |(exfalso;simp only[shT,hu]at hsh;cases hsh;done)
        |(exfalso;simp only[Cell.okWide,hu,Cell.ok]at hok;done)
        |(exfalso;simp only[Cell.okWide,hu,Cell.ok]at hok;exact hok))
  rcases hcase with⟨rfl,cs,rfl⟩|⟨rfl,hcs⟩
  ·exact⟨R2,H2,.agg us.toArray::vs',es::Hl,a1.trans b1,aa.ug a2 b2,b3,.cons (.agg _ _ (by simpa[Value.cells]using a4.mono b1)) b4,⟨⟨us.toArray,rfl,by simpa using a5.mono b2⟩,a6,b5⟩⟩
  ·rw[hcs]at a4
   cases a4 with
   |cons h3 h4=>
    cases h4
    exact⟨R2,H2,_::vs',es::Hl,a1.trans b1,aa.ug a2 b2,b3,.cons (h3.mono b1) b4,⟨a5.mono b2,a6,b5⟩⟩
theorem Ol {W W':World}(hl:laidOutB P=true)(hb:RowKit.Below W.heap.size W W'): ∀{ts:List TypeId} {vs:List Value} {ds:List (DataW Hd)} {p:List MemPlace},ts.all (fun t=>P.readableRec t&&decide (t<P.types.size))=true →
 DataW.TrodAll enc P W 0 (fun _=>true) true ts vs ds p→DataW.TrodAll enc P W' 0 (fun b=>decide (b<W.heap.size)) true ts vs ds p
 |[],vs,ds,p,_,h=>by
  obtain⟨rfl,rfl,rfl⟩:=Go.ChangeShapes.trodAll_nil h
  exact rfl
 |t::ts,vs,ds,p,ha,h=>by
  obtain⟨v,vs,d,ds,a,b,rfl,rfl,rfl,h1,h2⟩:=Go.ChangeShapes.trodAll_cons h
  simp only[List.all_cons,Bool.and_eq_true,decide_eq_true_eq]at ha
  refine⟨a,b,?_,Ol hl hb (by simpa using ha.2) h2,rfl⟩
  have h1':=h1
  obtain⟨m,hm⟩:=h1
  exact RowKit.Below.trod hl ha.1.1 ha.1.2 h1' hb (DataW.trod_lt m _ _ _ hm)
end
def AJ:aa:=⟨fun _=>none,0⟩
def K5:Ren:=⟨fun _=>False,fun _=>0,fun _=>0,fun _=>0,fun _=>0⟩
theorem AL (w:World):Laid K5 AJ w:=
 ⟨⟨fun _ h=>h.elim,fun _ h=>h.elim,fun _ _ h=>h.elim,fun _ _=>rfl⟩,fun _ h=>h⟩
end
section
structure Ctx where
 P:Program
 IP:FuncId→Option ah
 X:bu
 F:Nat→FuncId
 Ty:Nat→TypeId
 hX:wW X X
def Ctx.C (c:Ctx):bu:=eH c.P c.IP c.X
theorem Ctx.mono (c:Ctx):wW c.C c.C:=eH.mono c.hX
def ZK (rs:List wC)(K:Value→aa→Prop):Exit→Env→aa→Prop
 | .ret,T,H| .normal,T,H=> ∃r,gy T H rs=some r∧K r H
 |_,_,_=>False
theorem qbT (g:ah)(K:Value→aa→Prop):Dt g K=ZK g.results K:=by funext e T H;cases e <;> rfl
theorem Ctx.enter (c:Ctx){f:FuncId}{g:ah}(h:c.IP f=some g){args:List Value}{H:aa}{K:Value→aa→Prop}(hn:Nat.ble args.length g.ntmps=true)(hb:wz c.P c.C g.body (ZK g.results K) (Dr args) H):c.C f args H K:=
 eH.fold c.hX h ⟨Nat.le_of_ble_eq_true hn,by rw[qbT];exact hb⟩
structure aa.le (H H':aa):Prop where
 next:H.next≤H'.next
 get: ∀b,b<H.next→H'.get b=H.get b
structure aa.upd (S:List Nat)(H H':aa):Prop where
 next:H.next≤H'.next
 get: ∀b,b<H.next→b ∉ S→H'.get b=H.get b
theorem aa.le_refl (H:aa):H.le H:=⟨Nat.le_refl _,fun _ _=>rfl⟩
theorem aa.le.trans {A B C:aa}(h:A.le B)(k:B.le C):A.le C:=⟨Nat.le_trans h.next k.next,fun b hb=>(k.get b (Nat.lt_of_lt_of_le hb h.next)).trans (h.get b hb)⟩
theorem aa.ax (H:aa)(o:dU):H.le (H.alloc o):=⟨Nat.le_succ _,fun b hb=>fM H o hb⟩
theorem aa.le.alloc {A B:aa}(h:A.le B)(o:dU):A.le (B.alloc o):=h.trans (B.ax o)
theorem aa.le.set {A B:aa}(h:A.le B){i:Nat}(hi:A.next≤i)(o:dU):A.le (B.set i o):=⟨h.next,fun b hb=>by
 show(if b=i then some o else B.get b)=_
 rw[if_neg (by omega)];exact h.get b hb⟩
theorem aa.jA (S:List Nat)(H:aa):aa.upd S H H:=⟨Nat.le_refl _,fun _ _ _=>rfl⟩
theorem aa.le.upd {A B:aa}(h:A.le B)(S:List Nat):aa.upd S A B:=⟨h.next,fun b hb _=>h.get b hb⟩
theorem aa.upd.alloc {S:List Nat}{A B:aa}(h:aa.upd S A B)(o:dU):aa.upd S A (B.alloc o):=
 ⟨Nat.le_trans h.next (Nat.le_succ _),fun b hb hs=>by rw[fM B o (Nat.lt_of_lt_of_le hb h.next)];exact h.get b hb hs⟩
theorem aa.upd.set {S:List Nat}{A B:aa}(h:aa.upd S A B){i:Nat}(hi:A.next≤i∨i ∈ S)(o:dU):aa.upd S A (B.set i o):=⟨h.next,fun b hb hs=>by
 show(if b=i then some o else B.get b)=_
 rw[if_neg (by rintro rfl;rcases hi with hi|hi;omega;exact hs hi)];exact h.get b hb hs⟩
theorem YX (H:aa)(o:dU):(H.alloc o).next=H.next+1:=rfl
theorem YY (H:aa)(i:Nat)(o:dU):(H.set i o).next=H.next:=rfl
theorem YV (H:aa)(o:dU)(b:Nat):(H.alloc o).get b=if b=H.next then some o else H.get b:=rfl
theorem YW (H:aa)(i:Nat)(o:dU)(b:Nat):(H.set i o).get b=if b=i then some o else H.get b:=rfl
theorem YC (T:Env)(d:Nat)(v:Value)(t:Nat):(T.put (some d) v) t=if t=d then v else T t:=rfl
theorem YD (T:Env)(v:Value):T.put none v=T:=rfl
theorem Yz (T:Env)(t:Nat):ev T (.tmp t)=T t:=rfl
theorem YA (T:Env)(v:Value):ev T (.const v)=v:=rfl
theorem YB (T:Env)(f:FuncId):ev T (.func f) = .func (.func f) #[] #[]:=rfl
theorem YE (l:List Value)(t:Nat):Dr l t=l.getD t undef:=rfl
section
variable {P:Program} {C:bu}
def ZL (P:Program)(C:bu)(r:Option Value)(d:Option Nat)(os:List aF)(K:Env→aa→Prop)(T:Env)(H:aa):Prop:=∃v,r=some v∧fu P C os K (T.put d v) H
def ZM (P:Program)(C:bu)(r:Option (dU×(Nat→Value)))(d:Option Nat)(os:List aF)(K:Env→aa→Prop)(T:Env)(H:aa):Prop:=∃x,r=some x∧fu P C os K (T.put d (x.2 H.next)) (H.alloc x.1)
def ZN (P:Program)(C:bu)(r:Option (Value×aa))(d:Option Nat)(os:List aF)(K:Env→aa→Prop)(T:Env):Prop:=∃x,r=some x∧fu P C os K (T.put d x.1) x.2
def Ho (P:Program)(C:bu)(f:FuncId)(args:List Value)(d:Option Nat)(os:List aF)(K:Env→aa→Prop)(T:Env)(H:aa):Prop:=C f args H fun v H'=>fu P C os K (T.put d v) H'
def qdF (P:Program)(C:bu)(f:Value)(args:List Value)(d:Option Nat)(os:List aF)(K:Env→aa→Prop)(T:Env)(H:aa):Prop:=match f with
 | .func (.func g) a b=>Ho P C g (a.toList++args++b.toList) d os K T H
 |_=>False
def ZO (P:Program)(C:bu)(b:Bool)(d:Option Nat)(o:bO)(os:List aF)(K:Env→aa→Prop)(T:Env)(H:aa):Prop:=match b with
 |true=>Dq P C T H o fun v H'=>fu P C os K (T.put d v) H'
 |false=>fu P C os K (T.put d undef) H
def qdG (P:Program)(C:bu)(v:Value)(a b:fP)(Q:Exit→Env→aa→Prop)(T:Env)(H:aa):Prop:=match v with
 | .bool true=>wz P C a Q T H
 | .bool false=>wz P C b Q T H
 |_=>False
def qbU (r:Option Value)(K:Value→aa→Prop)(H:aa):Prop:=∃v,r=some v∧K v H
def ZP (v:Value)(w:Bool):Bool:=match v with
 | .bool b=>b == w
 |_=>false
variable {Q:Exit→Env→aa→Prop} {N K:Env→aa→Prop} {T:Env} {H:aa} {a b:fP} {d:Option Nat} {o:bO} {os:List aF} {g:Option (Nat×Bool)}
theorem J0:wz P C .skip Q T H=Q .normal T H:=rfl
theorem J1 {l:List aF}:wz P C (.ops l) Q T H=fu P C l (Q .normal) T H:=rfl
theorem J2 {l:List (aF×List aF)}:wz P C (.draw l) Q T H=bP P C l (Q .normal) T H:=rfl
theorem J3:wz P C (.seq a b) Q T H=wz P C a (Kk (wz P C b Q) Q) T H:=rfl
theorem J4 {c:Operand}:wz P C (.cond c a b) Q T H=qdG P C (ev T c) a b Q T H:=rfl
theorem J5 {id:Nat}:wz P C (.block id a) Q T H=wz P C a (wY id Q) T H:=rfl
theorem J6 {id:Nat}:wz P C (.exit id) Q T H=Q (.exit id) T H:=rfl
theorem J7:wz P C .ret Q T H=Q .ret T H:=rfl
theorem J8:Kk N Q .normal T H=N T H:=rfl
theorem J9:Kk N Q .ret T H=Q .ret T H:=rfl
theorem Ja {id:Nat}:Kk N Q (.exit id) T H=Q (.exit id) T H:=rfl
theorem Jb {id:Nat}:wY id Q .normal T H=Q .normal T H:=rfl
theorem Jc {id:Nat}:wY id Q .ret T H=Q .ret T H:=rfl
theorem Jd {id id':Nat}:wY id Q (.exit id') T H=if id'=id then Q .normal T H else Q (.exit id') T H:=rfl
theorem Je:qdG P C (.bool true) a b Q T H=wz P C a Q T H:=rfl
theorem Jf:qdG P C (.bool false) a b Q T H=wz P C b Q T H:=rfl
theorem Jg:bV T none=true:=rfl
theorem Jh {d:Nat}{w:Bool}:bV T (some (d,w))=ZP (T d) w:=rfl
theorem Ji {b w:Bool}:ZP (.bool b) w=(b == w):=rfl
theorem Jj {w:Bool}:ZP undef w=false:=rfl
theorem Jk:fu P C [] K T H=K T H:=rfl
theorem Jl:fu P C (⟨d,o,g⟩::os) K T H=ZO P C (bV T g) d o os K T H:=by unfold ZO;rfl
theorem Jm:ZO P C false d o os K T H=fu P C os K (T.put d undef) H:=rfl
def runK (P:Program)(C:bu)(k:Za)(d:Option Nat)(o:bO)(os:List aF)(K:Env→aa→Prop)(T:Env)(H:aa):Prop:=match k with
 | .rd=>ZL P C (bB P T H o) d os K T H
 | .al=>ZM P C (j3 T o) d os K T H
 | .ac=>ZN P C (fQ P T H o) d os K T
 | .ca=>jM C T H (fun v H'=>fu P C os K (T.put d v) H') o
theorem Jn:ZO P C true d o os K T H=runK P C o.kind d o os K T H:=by unfold ZO Dq runK ZL ZM ZN;simp only[];cases o.kind <;> rfl
theorem Jo:runK P C .rd d o os K T H=ZL P C (bB P T H o) d os K T H:=rfl
theorem Jp:runK P C .al d o os K T H=ZM P C (j3 T o) d os K T H:=rfl
theorem Jq:runK P C .ac d o os K T H=ZN P C (fQ P T H o) d os K T:=rfl
theorem Jr {f:FuncId}{args:List Operand}:runK P C .ca d (.call f args) os K T H=Ho P C f (args.map (ev T)) d os K T H:=rfl
theorem Js {f:Operand}{args:List Operand}:runK P C .ca d (.aZ f args) os K T H=qdF P C (ev T f) (args.map (ev T)) d os K T H:=by unfold runK qdF;simp only[jM];generalize ev T f=x;split <;> first|rfl|(split <;> simp_all)
theorem Jt {x:Operand}:runK P C .ca d (.rangeMap x) os K T H=uR H (fun v H'=>fu P C os K (T.put d v) H') (ev T x):=rfl
theorem Ju {x:Operand}:runK P C .ca d (.lC x) os K T H=kG H (fun v H'=>fu P C os K (T.put d v) H') (ev T x):=rfl
theorem Jv {x:Operand}:runK P C .ca d (.o6 x) os K T H=sS H (fun v H'=>fu P C os K (T.put d v) H') (ev T x):=rfl
theorem Jw {v:Value}:ZL P C (some v) d os K T H=fu P C os K (T.put d v) H:=by simp[ZL]
theorem Jx {x:dU}{mk:Nat→Value}:ZM P C (some (x,mk)) d os K T H=fu P C os K (T.put d (mk H.next)) (H.alloc x):=by simp[ZM]
theorem Jy {v:Value}{H':aa}:ZN P C (some (v,H')) d os K T=fu P C os K (T.put d v) H':=by simp[ZN]
theorem Jz {f:FuncId}{x y:Array Value}{args:List Value}:qdF P C (.func (.func f) x y) args d os K T H=Ho P C f (x.toList++args++y.toList) d os K T H:=rfl
theorem JA {rs:List wC}{K:Value→aa→Prop}:ZK rs K .ret T H=qbU (gy T H rs) K H:=rfl
theorem JB {rs:List wC}{K:Value→aa→Prop}:ZK rs K .normal T H=qbU (gy T H rs) K H:=rfl
theorem JC {v:Value}{K:Value→aa→Prop}:qbU (some v) K H=K v H:=by simp[qbU]
theorem ai {f:FuncId}{args:List Value}(h:C f args H fun v H'=>fu P C os K (T.put d v) H'):Ho P C f args d os K T H:=h
def dO (P:Program)(C:bu)(r:Option Value)(d:Option Nat)(st:List aF)(os:List (aF×List aF))(K:Env→aa→Prop)(T:Env)(H:aa):Prop:=∃v,r=some v∧dh P (T.put d v) H st∧bP P C os K (T.put d v) H
def dA (P:Program)(C:bu)(r:Option (dU×(Nat→Value)))(d:Option Nat)(st:List aF)(os:List (aF×List aF))(K:Env→aa→Prop)(T:Env)(H:aa):Prop:=∃x,r=some x∧dh P (T.put d (x.2 H.next)) (H.alloc x.1) st∧bP P C os K (T.put d (x.2 H.next)) (H.alloc x.1)
def dX (P:Program)(C:bu)(r:Option (Value×aa))(d:Option Nat)(st:List aF)(os:List (aF×List aF))(K:Env→aa→Prop)(T:Env):Prop:=∃x,r=some x∧dh P (T.put d x.1) x.2 st∧bP P C os K (T.put d x.1) x.2
def vg (P:Program)(C:bu)(f:FuncId)(args:List Value)(d:Option Nat)(st:List aF)(os:List (aF×List aF))(K:Env→aa→Prop)(T:Env)(H:aa):Prop:=C f args H fun v H'=>match st with
 |[]=>bP P C os K (T.put d v) H'
 |_=>dh P (T.put d v) H' st∧bP P C os K (T.put d v) H'
def dF (P:Program)(C:bu)(f:Value)(args:List Value)(d:Option Nat)(st:List aF)(os:List (aF×List aF))(K:Env→aa→Prop)(T:Env)(H:aa):Prop:=match f with
 | .func (.func g) a b=>vg P C g (a.toList++args++b.toList) d st os K T H
 |_=>False
def dG (P:Program)(C:bu)(b:Bool)(d:Option Nat)(o:bO)(st:List aF)(os:List (aF×List aF))(K:Env→aa→Prop)(T:Env)(H:aa):Prop:=match b with
 |true=>Dq P C T H o fun v H'=>match st with
  |[]=>bP P C os K (T.put d v) H'
  |_=>dh P (T.put d v) H' st∧bP P C os K (T.put d v) H'
 |false=>bP P C os K (T.put d undef) H
variable {st:List aF} {ds:List (aF×List aF)}
theorem Om {T:Env}{p:Prop}:(match st with|[]=>p|_=>dh P T H st∧p)=(dh P T H st∧p):=by cases st <;> simp[dh]
theorem JD:bP P C [] K T H=K T H:=rfl
theorem JE:bP P C ((⟨d,o,g⟩,st)::ds) K T H=dG P C (bV T g) d o st ds K T H:=by unfold dG;rfl
theorem JF:dG P C false d o st ds K T H=bP P C ds K (T.put d undef) H:=rfl
def dK (P:Program)(C:bu)(k:Za)(d:Option Nat)(o:bO)(st:List aF)(os:List (aF×List aF))(K:Env→aa→Prop)(T:Env)(H:aa):Prop:=match k with
 | .rd=>dO P C (bB P T H o) d st os K T H
 | .al=>dA P C (j3 T o) d st os K T H
 | .ac=>dX P C (fQ P T H o) d st os K T
 | .ca=>jM C T H (fun v H'=>match st with
   |[]=>bP P C os K (T.put d v) H'
   |_=>dh P (T.put d v) H' st∧bP P C os K (T.put d v) H') o
theorem JG:dG P C true d o st ds K T H=dK P C o.kind d o st ds K T H:=by unfold dG Dq dK dO dA dX;simp only[Om];cases o.kind <;> rfl
theorem JH:dK P C .rd d o st ds K T H=dO P C (bB P T H o) d st ds K T H:=rfl
theorem JI:dK P C .al d o st ds K T H=dA P C (j3 T o) d st ds K T H:=rfl
theorem JJ:dK P C .ac d o st ds K T H=dX P C (fQ P T H o) d st ds K T:=rfl
theorem JK {f:FuncId}{args:List Operand}:dK P C .ca d (.call f args) st ds K T H=vg P C f (args.map (ev T)) d st ds K T H:=rfl
theorem JL {f:Operand}{args:List Operand}:dK P C .ca d (.aZ f args) st ds K T H=dF P C (ev T f) (args.map (ev T)) d st ds K T H:=by unfold dK dF;simp only[jM];generalize ev T f=x;split <;> first|rfl|(split <;> simp_all)
theorem JM {v:Value}:dO P C (some v) d st ds K T H=(dh P (T.put d v) H st∧bP P C ds K (T.put d v) H):=by simp[dO]
theorem JN {x:dU}{mk:Nat→Value}:dA P C (some (x,mk)) d st ds K T H=(dh P (T.put d (mk H.next)) (H.alloc x) st∧bP P C ds K (T.put d (mk H.next)) (H.alloc x)):=by simp[dA]
theorem JO {v:Value}{H':aa}:dX P C (some (v,H')) d st ds K T=(dh P (T.put d v) H' st∧bP P C ds K (T.put d v) H'):=by simp[dX]
theorem JP {f:FuncId}{x y:Array Value}{args:List Value}:dF P C (.func (.func f) x y) args d st ds K T H=vg P C f (x.toList++args++y.toList) d st ds K T H:=rfl
theorem qR {f:FuncId}{args:List Value}(hC:wW C C)(h:C f args H fun v H'=>dh P (T.put d v) H' st∧bP P C ds K (T.put d v) H'):vg P C f args d st ds K T H:=by
 unfold vg
 refine hC _ _ _ _ _ (fun v H' k=> ?_) h
 rw[Om];exact k
theorem JQ:dh P T H []=True:=rfl
theorem JR {o:aF}:dh P T H [o]=bE P T H o:=rfl
theorem JS {o p:aF}{os:List aF}:dh P T H (o::p::os)=(bE P T H o∧dh P T H (p::os)):=rfl
end
end
section
theorem wrap64 {n:Int}(h: -9223372036854775808≤n)(k:n<9223372036854775808):IntKind.i64.wrap n=n:=by
 have e1:(2 ^ IntKind.i64.bits:Int)=18446744073709551616:=by decide
 have e2:(2 ^ (IntKind.i64.bits-1):Int)=9223372036854775808:=by decide
 unfold IntKind.wrap
 simp only[e1,e2,IntKind.signed,Bool.true_and]
 by_cases hn:0≤n
 ·have:n % 18446744073709551616=n:=by omega
  rw[this]
  simp only[ge_iff_le]
  rw[if_neg (by simp;omega)]
 ·have:n % 18446744073709551616=n+18446744073709551616:=by omega
  rw[this,if_pos (by simp;omega)]
  omega
def Fs (H:aa)(size:Nat)(v:Value)(rows:List (List Value)):Prop:=
 ∃a cap,v = .slice a rows.length cap∧(rows≠[]→∃b o cs ro,a=some ⟨b,o,none⟩∧b<H.next∧H.get b=some (.cells cs ro) ∧
  ∀i r,rows[i]? =some r→r.length=size∧(cs.drop (o+i*size)).take size=r∧o+i*size+size≤cs.length)
theorem Fs.le {H H':aa}{size:Nat}{v:Value}{rows:List (List Value)}(h:Fs H size v rows)(hl:H.le H'):Fs H' size v rows:=by
 obtain⟨a,cap,h1,h2⟩:=h
 refine⟨a,cap,h1,fun hne=> ?_⟩
 obtain⟨b,o,cs,ro,h3,h4,h5,h6⟩:=h2 hne
 exact⟨b,o,cs,ro,h3,Nat.lt_of_lt_of_le h4 hl.next,by rw[hl.get b h4];exact h5,h6⟩
def ZQ (k:IntKind)(a b:Int):Int:=k.wrap (BitVec.ofInt k.bits a &&& BitVec.ofInt k.bits b).toNat
def orW (k:IntKind)(a b:Int):Int:=k.wrap (BitVec.ofInt k.bits a ||| BitVec.ofInt k.bits b).toNat
def Wp (k:IntKind)(a b:Int):Int:=k.wrap (BitVec.ofInt k.bits a ^^^ BitVec.ofInt k.bits b).toNat
def Wq (k:IntKind)(a b:Int):Int:=k.wrap (a*2 ^ min b.toNat k.bits)
def Px (k:IntKind)(a b:Int):Int:=a.fdiv (2 ^ min b.toNat k.bits)
section
variable {k:IntKind} {a b:Int}
theorem YF:kU .add k a b=some (.int k (k.wrap (a+b))):=rfl
theorem YG:kU .sub k a b=some (.int k (k.wrap (a-b))):=rfl
theorem YH:kU .mul k a b=some (.int k (k.wrap (a*b))):=rfl
theorem YI:kU .quo k a b=if b=0 then none else some (.int k (k.wrap (a.tdiv b))):=rfl
theorem YJ:kU .rem k a b=if b=0 then none else some (.int k (a.tmod b)):=rfl
theorem YK:kU .and k a b=some (.int k (ZQ k a b)):=rfl
theorem YL:kU .or k a b=some (.int k (orW k a b)):=rfl
theorem YM:kU .xor k a b=some (.int k (Wp k a b)):=rfl
theorem YN:kU .eql k a b=some (.bool (decide (a=b))):=rfl
theorem YO:kU .neq k a b=some (.bool (decide (a≠b))):=rfl
theorem YP:kU .lss k a b=some (.bool (decide (a<b))):=rfl
theorem YQ:kU .leq k a b=some (.bool (decide (a≤b))):=rfl
theorem YR:kU .gtr k a b=some (.bool (decide (b<a))):=rfl
theorem YS:kU .geq k a b=some (.bool (decide (b≤a))):=rfl
theorem YT:O3 .shl k a b=if b<0 then none else some (.int k (Wq k a b)):=rfl
theorem YU:O3 .shr k a b=if b<0 then none else some (.int k (Px k a b)):=rfl
end
section
variable {k:IntKind} {n:Int} {b:Bool} {fk:FloatKind} {x y:Nat} {s:ByteArray} {a:Option Addr} {r:Option Nat} {fn:Fn} {p q:Array Value} {t:TypeId} {v:Value} {l:List UInt8}
theorem YZ:fo (.bool b)=true:=rfl
theorem B0:Value.cells (.bool b) = #[.bool b]:=rfl
theorem B1:fo (.int k n)=true:=rfl
theorem B2:Value.cells (.int k n) = #[.int k n]:=rfl
theorem B3:fo (.float fk x)=true:=rfl
theorem B4:Value.cells (.float fk x) = #[.float fk x]:=rfl
theorem B5:fo (.complex fk x y)=true:=rfl
theorem B6:Value.cells (.complex fk x y) = #[.complex fk x y]:=rfl
theorem B7:fo (.string s)=true:=rfl
theorem B8:Value.cells (.string s) = #[.string s]:=rfl
theorem B9:fo (.pointer a)=true:=rfl
theorem Ba:Value.cells (.pointer a) = #[.pointer a]:=rfl
theorem Bb:fo (.slice a x y)=true:=rfl
theorem Bc:Value.cells (.slice a x y) = #[.slice a x y]:=rfl
theorem Bd:fo (.map r)=true:=rfl
theorem Be:Value.cells (.map r) = #[.map r]:=rfl
theorem Bf:fo (.func fn p q)=true:=rfl
theorem Bg:Value.cells (.func fn p q) = #[.func fn p q]:=rfl
theorem Bh:fo (.nilFunc)=true:=rfl
theorem Bi:Value.cells (.nilFunc) = #[.nilFunc]:=rfl
theorem Bj:fo (.iface t v)=true:=rfl
theorem Bk:Value.cells (.iface t v) = #[.iface t v]:=rfl
theorem Bl:fo (.nilIface)=true:=rfl
theorem Bm:Value.cells (.nilIface) = #[.nilIface]:=rfl
theorem Bn:fo (ak l)=true:=rfl
theorem Bo:Value.cells (ak l) = #[ak l]:=rfl
theorem Bp:Value.cells (.agg p)=p:=rfl
end
def Ru (P:Program)(H:aa)(kt:TypeId)(zero:Value)(ok:Bool)(mv kv:Value):Option Value:=
 match mF H mv with
  |some es=>
   if tO P kt kv es=true then
    match mE P kt kv es 0 with
    |some (some i)=>match es[i]? with
     |some e=>some (if ok then .tuple #[e.val,.bool true]else e.val)
     |none=>none
    |some none=>some (if ok then .tuple #[zero,.bool false]else zero)
    |none=>none
   else none
  |none=>none
def qbV (P:Program)(H:aa)(kt:TypeId)(mv kv vv:Value):Option (Value×aa):=
 match mv with
  | .map (some r)=>match H.get r with
    |some (.map es clock)=>
     if tO P kt kv es=true then
      match mE P kt kv es 0 with
      |some (some i)=>
       if Instr.sameBits 10000 (((es[i]?).map (·.key)).getD kv) kv=true then
        some (undef,H.set r (.map (es.modify i fun e=>{e with key:=kv,val:=vv}) clock))else none
      |some none=>some (undef,H.set r (.map (es++[{key:=kv,val:=vv,born:=clock}]) (clock+1)))
      |none=>none
     else none
    |_=>none
  |_=>none
def qin (P:Program)(H:aa)(kt:TypeId)(mv kv:Value):Option (Value×aa):=
 match mv with
  | .map (some r)=>match H.get r with
    |some (.map es clock)=>
     if tO P kt kv es=true then
      match mE P kt kv es 0 with
      |some (some i)=>some (.tuple #[],H.set r (.map (es.eraseIdx i) clock))
      |some none=>some (.tuple #[],H.set r (.map es clock))
      |none=>none
     else none
    |_=>none
  |_=>none
theorem Yq {P:Program}{T:Env}{H:aa}{kt:TypeId}{zero:Value}{ok:Bool}{m k:Operand}:bB P T H (.lookup kt zero ok m k)=Ru P H kt zero ok (ev T m) (ev T k):=rfl
theorem Yx {P:Program}{T:Env}{H:aa}{kt:TypeId}{m k v:Operand}:fQ P T H (.mapUpdate kt m k v)=qbV P H kt (ev T m) (ev T k) (ev T v):=rfl
theorem Yy {P:Program}{T:Env}{H:aa}{kt:TypeId}{m k:Operand}:fQ P T H (.delete kt m k)=qin P H kt (ev T m) (ev T k):=rfl
theorem JT:type_of% @bB.eq_2:=@bB.eq_2
theorem JU:type_of% @bB.eq_3:=@bB.eq_3
theorem JV:type_of% @bB.eq_4:=@bB.eq_4
theorem JW:type_of% @bB.eq_5:=@bB.eq_5
theorem JX:type_of% @bB.eq_6:=@bB.eq_6
theorem JY:type_of% @bB.eq_7:=@bB.eq_7
theorem JZ:type_of% @bB.eq_8:=@bB.eq_8
theorem Y0:type_of% @bB.eq_9:=@bB.eq_9
theorem Y1:type_of% @bB.eq_10:=@bB.eq_10
theorem Y2:type_of% @bB.eq_11:=@bB.eq_11
theorem Y3:type_of% @bB.eq_12:=@bB.eq_12
theorem Y4:type_of% @bB.eq_13:=@bB.eq_13
theorem Y5:type_of% @bB.eq_14:=@bB.eq_14
theorem Y6:type_of% @bB.eq_15:=@bB.eq_15
theorem Y7:type_of% @bB.eq_16:=@bB.eq_16
theorem Y8:type_of% @bB.eq_17:=@bB.eq_17
theorem Y9:type_of% @bB.eq_18:=@bB.eq_18
theorem Ya:type_of% @bB.eq_19:=@bB.eq_19
theorem Yb:type_of% @bB.eq_20:=@bB.eq_20
theorem Yc:type_of% @bB.eq_21:=@bB.eq_21
theorem Yd:type_of% @bB.eq_22:=@bB.eq_22
theorem Ye:type_of% @bB.eq_23:=@bB.eq_23
theorem Yf:type_of% @bB.eq_24:=@bB.eq_24
theorem Yg:type_of% @bB.eq_25:=@bB.eq_25
theorem Yh:type_of% @bB.eq_27:=@bB.eq_27
theorem Yi:type_of% @bB.eq_28:=@bB.eq_28
theorem Yj:type_of% @bB.eq_29:=@bB.eq_29
theorem Yk:type_of% @bB.eq_30:=@bB.eq_30
theorem Yl:type_of% @bB.eq_31:=@bB.eq_31
theorem Ym:type_of% @bB.eq_32:=@bB.eq_32
theorem Yn:type_of% @bB.eq_33:=@bB.eq_33
theorem Yo:type_of% @bB.eq_34:=@bB.eq_34
theorem Yp:type_of% @bB.eq_35:=@bB.eq_35
theorem Yr:type_of% @fQ.eq_1:=@fQ.eq_1
theorem Ys:type_of% @fQ.eq_2:=@fQ.eq_2
theorem Yt:type_of% @fQ.eq_3:=@fQ.eq_3
theorem Yu:type_of% @fQ.eq_4:=@fQ.eq_4
theorem Yv:type_of% @fQ.eq_5:=@fQ.eq_5
theorem Yw:type_of% @fQ.eq_6:=@fQ.eq_6
end
section
def sameAddr (a b:Option Addr):Bool:=match a,b with
 |none,none=>true
 |some a,some b=>a.block == b.block&&a.off == b.off&&a.spot == b.spot
 |_,_=>false
theorem Hq {a b:Option Addr}(h:sameAddr a b=true):a=b:=by
 unfold sameAddr at h
 split at h
 ·rfl
 ·rename_i a b
  simp only[Bool.and_eq_true,beq_iff_eq]at h
  cases a;cases b;simp_all
 ·cases h
def Rv:Value→Value→Bool
 | .bool a,.bool b=>a == b
 | .int k a,.int k' b=>decide (k=k')&&decide (a=b)
 | .string a,.string b=>decide (a.data.toList=b.data.toList)
 | .pointer a,.pointer b=>sameAddr a b
 | .slice a n c,.slice a' n' c'=>sameAddr a a'&&n == n'&&c == c'
 | .map a,.map b=>match a,b with
   |none,none=>true
   |some a,some b=>a == b
   |_,_=>false
 | .nilFunc,.nilFunc=>true
 | .nilIface,.nilIface=>true
 |_,_=>false
theorem K6 {a b:Value}(h:Rv a b=true):a=b:=by
 unfold Rv at h
 split at h
 ·simp at h;rw[h]
 ·simp at h;rw[h.1,h.2]
 ·rename_i a b;have h1:=of_decide_eq_true h;congr 1;cases a;cases b;simp at h1;simp[h1]
 ·rw[Hq h]
 ·simp only[Bool.and_eq_true,beq_iff_eq]at h;rw[Hq h.1.1,h.1.2,h.2]
 ·split at h <;> simp_all
 ·rfl
 ·rfl
 ·cases h
def Oo:List Value→List Value→Bool
 |[],[]=>true
 |a::x,b::y=>Rv a b&&Oo x y
 |_,_=>false
theorem Rw: ∀{a b:List Value},Oo a b=true→a=b
 |[],[],_=>rfl
 |a::x,b::y,h=>by
  simp only[Oo,Bool.and_eq_true]at h
  rw[K6 h.1,Rw h.2]
 |[],_::_,h=>by simp[Oo]at h
 |_::_,[],h=>by simp[Oo]at h
def ZR:Value→Value→Bool
 | .agg a,.agg b=>Oo a.toList b.toList
 |a,b=>Rv a b
theorem ZT {a b:Value}(h:ZR a b=true):a=b:=by
 unfold ZR at h
 split at h
 ·rename_i a b;have:=Rw h;cases a;cases b;simp at this;rw[this]
 ·exact K6 h
section
variable (P:Program) (IP:FuncId→Option ah)
def K7 (T:Env)(H:aa)(o:aF):Bool:=
 match bV T o.guard,o.dst with
 |true,some d=>match bB P T H o.op with
  |some v=>ZR v (T d)
  |none=>false
 |true,none=>(bB P T H o.op).isSome
 |false,_=>true
end
section
variable {P:Program} {IP IP':FuncId→Option ah} {X:bu}
variable (hX:wW X X) (ZA: ∀f g,IP' f=some g→IP f=some g)
include hX ZA
omit hX ZA in
theorem DV {T:Env}{H:aa}{o:aF}(h:K7 P T H o=true):bE P T H o:=by
 unfold K7 at h
 unfold bE
 split at h
 ·rename_i d hw hd
  rw[hw,hd]
  simp only[]
  split at h
  ·rename_i v hv;rw[hv,ZT h]
  ·cases h
 ·rename_i hw hd
  rw[hw,hd];exact h
 ·rename_i hw
  rw[hw];trivial
omit hX ZA in
theorem Hr {T:Env}{H:aa}: ∀{st:List aF},st.all (K7 P T H)=true→dh P T H st
 |[],_=>trivial
 |[o],h=>DV (by simpa using h)
 |o::p::os,h=>by
  simp only[List.all_cons,Bool.and_eq_true]at h
  exact⟨DV h.1,Hr (st:=p::os) (by simpa using h.2)⟩
end
def DW (f:FuncId)(v:Value):bu:=fun g args H K=>g=f∧args=[]∧K v H
theorem Py (f:FuncId)(v:Value):wW (DW f v) (DW f v):=fun _ _ _ _ _ hK h=>⟨h.1,h.2.1,hK _ _ h.2.2⟩
end
section
mutual
theorem qbW (R:Ren): ∀v':Value,∃v,VR R v v'
 | .bool b=>⟨_,.bool b⟩
 | .agg ⟨l⟩=>by
   obtain⟨l0,h⟩:=DX R l
   exact⟨.agg l0.toArray,.agg _ _ (by simpa using h)⟩
 | .tuple ⟨l⟩=>by
   obtain⟨l0,h⟩:=DX R l
   exact⟨.tuple l0.toArray,.tuple _ _ (by simpa using h)⟩
 | .int k n=>⟨_,.int k n⟩
 | .float k n=>⟨_,.float k n⟩
 | .complex k n m=>⟨_,.complex k n m⟩
 | .string s=>⟨_,.string s⟩
 | .pointer a=>⟨.chan none,.any _ rfl (fun _ h=>by cases h)⟩
 | .slice a n c=>⟨.chan none,.any _ rfl (fun _ h=>by cases h)⟩
 | .map r=>⟨.chan none,.any _ rfl (fun _ h=>by cases h)⟩
 | .chan r=>⟨.chan none,.any _ rfl (fun _ h=>by cases h)⟩
 | .func f a b=>⟨.chan none,.any _ rfl (fun _ h=>by cases h)⟩
 | .nilFunc=>⟨_,.nilFunc⟩
 | .iface t v=>⟨.chan none,.any _ rfl (fun _ h=>by cases h)⟩
 | .nilIface=>⟨_,.nilIface⟩
theorem DX (R:Ren): ∀l':List Value,∃l,eT R l l'
 |[]=>⟨[],.nil⟩
 |v::r=>by
  obtain⟨x,h1⟩:=qbW R v
  obtain⟨y,h2⟩:=DX R r
  exact⟨x::y,.cons h1 h2⟩
end
section
variable {P:Program} {R:Ren} {H:aa} {w:World}
theorem Rx {b off:Nat}{cs cs2:List Value}(hS:gT R H w)(hd:R.dom b)(hg:H.get b=some (.cells cs false))(hfit:R.base b+off+cs2.length≤R.size b)
 (hrel: ∀arr t fr,w.heap[R.blk b]? =some (.cells arr t fr)→eT R cs2 ((arr.toList.drop (R.base b+off)).take cs2.length)):
 R.le (R.bW H.next (R.blk b) (R.base b+off) (R.size b) cs2.length)∧gT (R.bW H.next (R.blk b) (R.base b+off) (R.size b) cs2.length) ((H.set b .dead).alloc (.cells cs2 false)) w ∧
   Ext R H w (R.bW H.next (R.blk b) (R.base b+off) (R.size b) cs2.length) ((H.set b .dead).alloc (.cells cs2 false)) w:=by
 have ho:=hS.obj b hd
 rw[hg]at ho
 obtain⟨g1,g2,arr,t,fr,g3,g4,g5,g6⟩:=ho
 have hrl:=hrel arr t fr g3
 have hnd: ¬ R.dom H.next:=fun h=>Nat.lt_irrefl _ (hS.lt _ h)
 have hle:R.le (R.bW H.next (R.blk b) (R.base b+off) (R.size b) cs2.length):=Ren.uf hnd
 have hlive:live H b:=by unfold live;rw[hg];trivial
 have hrw:bL H b:=by unfold bL;rw[hg];trivial
 have hblk:R.blk b<w.heap.size:=(Array.getElem?_eq_some_iff.1 g3).1
 have hne: ∀x,R.dom x→x≠H.next:=fun x hx e=>hnd (e▸hx)
 have hget: ∀x,((H.set b .dead).alloc (.cells cs2 false)).get x=if x=H.next then some (.cells cs2 false)else if x=b then some .dead else H.get x:=fun x=>rfl
 have hlv: ∀x,R.dom x→live ((H.set b .dead).alloc (.cells cs2 false)) x→live H x∧x≠b:=fun x hx hl=>by
  unfold live at hl ⊢
  rw[hget,if_neg (hne x hx)]at hl
  by_cases hb:x=b
  ·rw[if_pos hb]at hl;exact hl.elim
  ·rw[if_neg hb]at hl;exact⟨hl,hb⟩
 have Q5: ∀x,R.dom x→bL ((H.set b .dead).alloc (.cells cs2 false)) x→bL H x:=fun x hx hl=>by
  unfold bL at hl ⊢
  rw[hget,if_neg (hne x hx)]at hl
  by_cases hb:x=b
  ·rw[if_pos hb]at hl;exact hl.elim
  ·rw[if_neg hb]at hl;exact hl
 have e0: ∀x,R.dom x→(R.bW H.next (R.blk b) (R.base b+off) (R.size b) cs2.length).blk x=R.blk x:=fun x hx=>hle.blk x hx
 have e1:(R.bW H.next (R.blk b) (R.base b+off) (R.size b) cs2.length).blk H.next=R.blk b:=by simp[Ren.bW]
 refine⟨hle,⟨?_,?_,?_,fun c hc=>by
  have hc':H.next+1≤c:=hc
  have:=hS.lt b hd
  rw[hget,if_neg (by omega),if_neg (by omega)];exact hS.wf c (by omega)⟩,⟨hle,Nat.le_succ _,?_,?_,?_,?_,?_,Nat.le_refl _,rfl,rfl,rfl⟩⟩
 ·intro x hx
  rcases hx with hx|rfl
  ·exact Nat.lt_succ_of_lt (hS.lt x hx)
  ·exact Nat.lt_succ_self _
 ·intro x hx
  rw[hget]
  by_cases Nf:x=H.next
  ·subst Nf
   rw[if_pos rfl]
   have hbx:(R.bW H.next (R.blk b) (R.base b+off) (R.size b) cs2.length).base H.next=R.base b+off:=by simp[Ren.bW]
   have hsx:(R.bW H.next (R.blk b) (R.base b+off) (R.size b) cs2.length).size H.next=R.size b:=by simp[Ren.bW]
   have hlx:(R.bW H.next (R.blk b) (R.base b+off) (R.size b) cs2.length).len H.next=cs2.length:=by simp[Ren.bW]
   refine⟨hlx.symm,by rw[hbx,hsx];exact hfit,arr,t,fr,by rw[e1];exact g3,by rw[hsx];exact g4,?_,fun _ j hj1 hj2=>g6 rfl j (by rw[hbx]at hj1;omega) (by rw[hsx]at hj2;exact hj2)⟩
   rw[hbx]
   exact hrl.mono hle
  ·rw[if_neg Nf]
   have hxd:R.dom x:=hx.resolve_right Nf
   by_cases hxb:x=b
   ·rw[if_pos hxb];trivial
   ·rw[if_neg hxb]
    have hox:=hS.obj x hxd
    cases hgx:H.get x with
    |none=>rw[hgx]at hox;exact hox.elim
    |some ob=>
     by_cases hdd:ob = .dead
     ·subst hdd;trivial
     ·rw[←hgx]
      exact hox.move hle hxd fun y hy=>hy
 ·intro x y hx hy hlx hly hor he
  by_cases Nf:x=H.next
  ·by_cases hyn:y=H.next
   ·rw[Nf,hyn]
   ·exfalso
    have Ng:=hy.resolve_right hyn
    obtain⟨h1,h2⟩:=hlv y Ng hly
    rw[Nf,e1,e0 y Ng]at he
    exact h2 (hS.inj y b Ng hd h1 hlive (.inr hrw) he.symm)
  ·have hxd:=hx.resolve_right Nf
   obtain⟨h1,h2⟩:=hlv x hxd hlx
   by_cases hyn:y=H.next
   ·exfalso
    rw[hyn,e1,e0 x hxd]at he
    exact h2 (hS.inj x b hxd hd h1 hlive (.inr hrw) he)
   ·have Ng:=hy.resolve_right hyn
    rw[e0 x hxd,e0 y Ng]at he
    exact hS.inj x y hxd Ng h1 (hlv y Ng hly).1 (hor.imp (Q5 x hxd) (Q5 y Ng)) he
 ·intro x hx
  rcases hx with hx|rfl
  ·exact .inl hx
  ·exact .inr (Nat.le_refl _)
 ·intro x hx hn
  rw[hget,if_neg (by omega),if_neg (fun e:x=b=>hn (e▸hd))]
 ·intro x cs' hgx hx
  rw[hget,if_neg (by omega)]
  by_cases hxb:x=b
  ·subst hxb;rw[hg]at hgx;cases hgx
  ·rw[if_neg hxb];exact hgx
 ·intro k _ hk
  rfl
 ·intro x hx hl
  rcases hx with hx|rfl
  ·refine .inr ⟨x,hx,?_,(e0 x hx).symm⟩
   unfold bL at hl ⊢
   rw[hget,if_neg (hne x hx)]at hl
   by_cases hxb:x=b
   ·rw[if_pos hxb]at hl;exact hl.elim
   ·rw[if_neg hxb]at hl;exact hl
  ·exact .inr ⟨b,hd,hrw,e1.symm⟩
def K8 (H:aa)(size:Nat)(s:Value)(K:Value→aa→Prop):Prop:=
 (s = .slice none 0 0∧K s H)∨∃b o len cs,s = .slice (some ⟨b,o,none⟩) len (dQ+size)∧H.get b=some (.cells cs false) ∧
   ∀c junk,len≤c→c<dQ→(c=0∨o+c*size≤(cs++junk).length)→K (.slice (some ⟨H.next,o,none⟩) len c) ((H.set b .dead).alloc (.cells (cs++junk) false))
def Hide (H:aa)(size:Nat)(r:Value)(K:Value→aa→Prop):Prop:=
 K r H∨∃b o len c cs,r = .slice (some ⟨b,o,none⟩) len c∧c<dQ∧H.get b=some (.cells cs false)∧len≤c∧o+c*size≤cs.length ∧
   K (.slice (some ⟨H.next,0,none⟩) len (dQ+size)) ((H.set b .dead).alloc (.cells ((cs.drop o).take (len*size)) false))
theorem TM {size:Nat}{s s':Value}{K:Value→aa→Prop}(h1:1<size)(hS:gT R H w)(hv:VR R s s')(h:K8 H size s K):
 ∃R' H' t,R.le R'∧gT R' H' w∧Ext R H w R' H' w∧VR R' t s'∧K t H':=by
 rcases h with⟨rfl,hk⟩|⟨b,o,len,cs,rfl,hg,hk⟩
 ·exact⟨R,H,_,R.le_refl,hS,Ext.refl _ _ _,hv,hk⟩
 ·have hd:R.dom b:=(hv.gU).1
  have ho:=hS.obj b hd
  rw[hg]at ho
  obtain⟨g1,g2,arr,t,fr,g3,g4,g5,g6⟩:=ho
  obtain⟨junk,hj⟩:=DX R ((arr.toList.drop (R.base b)).drop cs.length)
  have hjl:=hj.length
  simp only[List.length_drop,Array.length_toList]at hjl
  have hall:eT R (cs++junk) (arr.toList.drop (R.base b)):=by
   have:=eT.append hj g5
   rwa[List.take_append_drop]at this
  have hcl:(cs++junk).length=R.size b-R.base b:=by
   rw[hall.length,List.length_drop,Array.length_toList,g4]
  obtain⟨k1,k2,k3⟩:=Rx (cs2:=cs++junk) (off:=0) hS hd hg (by omega) (fun arr' t' fr' h'=>by
   rw[g3]at h'
   injection h' with h'
   injection h' with e1 e2 e3
   subst e1
   rw[Nat.add_zero,List.take_of_length_le (by rw[hcl,List.length_drop,Array.length_toList,g4];exact Nat.le_refl _)]
   exact hall)
  have hd2:(R.bW H.next (R.blk b) (R.base b+0) (R.size b) (cs++junk).length).dom H.next:=.inr rfl
  have eb:(R.bW H.next (R.blk b) (R.base b+0) (R.size b) (cs++junk).length).blk H.next=R.blk b:=by simp[Ren.bW]
  have ea:(R.bW H.next (R.blk b) (R.base b+0) (R.size b) (cs++junk).length).base H.next=R.base b:=by simp[Ren.bW]
  obtain⟨cap,hcap⟩: ∃cap,cap=dQ+size:=⟨_,rfl⟩
  rw[←hcap]at hv
  cases hv with
  |lI=>exfalso;unfold dQ at hcap;omega
  |gm _ _ _ _ _ hcc=>exfalso;unfold dQ at hcc hcap;omega
  |iT _ _ _ c e _ he hlc yE q1 q2=>
   obtain rfl:e=size:=by omega
   have qe4:c<dQ:=yE.resolve_left (by omega)
   refine⟨_,_,_,k1,k2,k3,?_,hk c junk hlc qe4 (.inr (by omega))⟩
   have:=VR.gm H.next o len c hd2 qe4
   rw[eb,ea]at this
   exact this
  |jN _ _ e a _ he q1=>
   exact⟨_,_,_,k1,k2,k3,.lI _ _ _ hd2,hk 0 junk (Nat.le_refl _) (by unfold dQ;omega) (.inl rfl)⟩
theorem ZU {size:Nat}{r r':Value}{K:Value→aa→Prop}(h0:0<size)(hS:gT R H w)(hv:VR R r r')(h:Hide H size r K):
 ∃R' H' t,R.le R'∧gT R' H' w∧Ext R H w R' H' w∧VR R' t r'∧K t H':=by
 rcases h with hk|⟨b,o,len,c,cs,rfl,yE,hg,hlc,hfit,hk⟩
 ·exact⟨R,H,_,R.le_refl,hS,Ext.refl _ _ _,hv,hk⟩
 ·have hd:R.dom b:=(hv.gU).1
  have ho:=hS.obj b hd
  rw[hg]at ho
  obtain⟨g1,g2,arr,t,fr,g3,g4,g5,g6⟩:=ho
  have hmul:len*size≤c*size:=Nat.mul_le_mul_right _ hlc
  have hcl:((cs.drop o).take (len*size)).length=len*size:=by rw[List.length_take,List.length_drop];omega
  obtain⟨k1,k2,k3⟩:=Rx (cs2:=(cs.drop o).take (len*size)) (off:=o) hS hd hg (by rw[hcl];omega) (fun arr' t' fr' h'=>by
   rw[g3]at h'
   injection h' with h'
   injection h' with e1 e2 e3
   subst e1
   rw[hcl]
   have:=(g5.drop o).take (len*size)
   rw[List.drop_take,List.take_take,List.drop_drop,Nat.min_eq_left (by omega)]at this
   exact this)
  have hd2:(R.bW H.next (R.blk b) (R.base b+o) (R.size b) ((cs.drop o).take (len*size)).length).dom H.next:=.inr rfl
  have eb:(R.bW H.next (R.blk b) (R.base b+o) (R.size b) ((cs.drop o).take (len*size)).length).blk H.next=R.blk b:=by simp[Ren.bW]
  have ea:(R.bW H.next (R.blk b) (R.base b+o) (R.size b) ((cs.drop o).take (len*size)).length).base H.next=R.base b+o:=by simp[Ren.bW]
  have es:(R.bW H.next (R.blk b) (R.base b+o) (R.size b) ((cs.drop o).take (len*size)).length).size H.next=R.size b:=by simp[Ren.bW]
  have el:(R.bW H.next (R.blk b) (R.base b+o) (R.size b) ((cs.drop o).take (len*size)).length).len H.next=len*size:=by simp[Ren.bW,hcl]
  cases hv with
  |iT _ _ _ _ e=>exfalso;unfold dQ at yE;omega
  |jN _ _ e=>exfalso;unfold dQ at yE;omega
  |gm _ _ _ _ _ hcc=>
   refine⟨_,_,_,k1,k2,k3,?_,hk⟩
   have:=VR.iT (R:=R.bW H.next (R.blk b) (R.base b+o) (R.size b) ((cs.drop o).take (len*size)).length) H.next 0 len c size hd2 h0 hlc (.inr hcc) (by rw[el];omega) (by rw[ea,es];omega)
   rw[eb,ea,Nat.add_zero]at this
   exact this
  |lI _ _ a=>
   exact⟨_,_,_,k1,k2,k3,.jN _ _ _ _ hd2 h0 (by rw[el];omega),hk⟩
theorem ZV {f:FuncId}{g:ah}(h:jF P f=some g):(∀(as:Array Value) w,(callFunc f as).run P w = .ok (.enter f as) w)∧∃fn,P.funcs[f]? =some fn∧fn.body.isNone=false:=by
 unfold jF at h
 simp only[Option.map_eq_some_iff]at h
 obtain⟨g0,h,_⟩:=h
 unfold qM at h
 split at h
 case h_2=>cases h
 rename_i fn hfn
 split at h
 case h_2=>cases h
 rename_i c hc hname
 refine⟨fun as w=> ?_,fn,hfn,by rw[hc];rfl⟩
 have hname: ¬ fn.name = "runtime.NumGoroutine" :=by simpa using hname
 simp[callFunc,hfn,hname,hc]
def Pz (CC:bu)(g:FuncId)(size:Nat):bu:=fun f args H K=>f=g∧∃s r,args=s::r∧K8 H size s fun t H1=>CC g (t::r) H1 fun v H2=>Hide H2 size v K
theorem TN {CC:bu}{g:FuncId}{code:ah}{size:Nat}(hC:jh P CC)(hg:jF P g=some code)(h1:1<size):jh P (Pz CC g size):=by
 obtain⟨hen,fn,hfn,hbody⟩:=ZV hg
 rintro f args H K ⟨rfl,s,r,rfl,hrev⟩
 refine .inl ⟨hen,fun R w args' hS hA=> ?_⟩
 have hA':=hA
 obtain⟨l⟩:=args'
 cases hA with
 |cons hs hr=>
  obtain⟨R1,H1,t,k1,k2,k3,k4,k5⟩:=TM h1 hS hs hrev
  rcases hC f (t::r) H1 _ k5 with⟨_,hc⟩|⟨hn,_⟩
  ·refine(hc R1 w ⟨_::_⟩ k2 (.cons k4 (hr.mono k1))).mono fun e w' he=> ?_
   obtain⟨v,v',R2,H2,rfl,hh,q1,q2,q3⟩:=he
   obtain⟨R3,H3,u,p1,p2,p3,p4,p5⟩:=ZU (by omega) q2 q1 hh
   exact⟨u,v',R3,H3,rfl,p5,p4,p2,(k3.trans q3).trans p3⟩
  ·have:=hn fn hfn
   rw[hbody]at this
   cases this
def Ry (g:FuncId):bu:=fun f args H K=>f=g∧∃b1 o1 n1 c1 b2 o2 n2 c2 cs1 cs2,args=[.slice (some ⟨b1,o1,none⟩) n1 c1,.slice (some ⟨b2,o2,none⟩) n2 c2]∧b1≠b2∧0<n1∧0<n2 ∧
 H.get b1=some (.cells cs1 false)∧H.get b2=some (.cells cs2 false)∧o1≤cs1.length∧cs2≠[]∧K (.bool false) H
theorem Ws {g:FuncId}{fn:Func}{tS tR e:TypeId}{size:Nat}(hf:P.funcs[g]? =some fn)(hname:(fn.name == "runtime.NumGoroutine")=false)(hb:fn.body.isNone=true)(hn:Extern.findNext fn=none)
 (he:Extern.find fn=some (Extern.SlicesOverlaps.overlaps #[tS,tS] #[tR])) (ht:P.underlying tS=some (.slice e)) (hz:bz P e=some size):jh P (Ry g):=by
 rintro f args H K ⟨rfl,b1,o1,n1,c1,b2,o2,n2,c2,cs1,cs2,rfl,hne,hn1,hn2,g1,g2,ho1,hc2,hk⟩
 refine .inr ⟨fun fn' h'=>by rw[hf]at h';injection h' with h';subst h';exact hb,fun R w args' hS hA=> ?_⟩
 obtain⟨l⟩:=args'
 cases hA with
 |cons hs hr=>
  cases hr with
  |cons hs2 hr=>
   cases hr
   rename_i u v
   have key:(Extern.SlicesOverlaps.overlaps #[tS,tS] #[tR] #[u,v]).run P w = .ok (.bool false) w:=by
    obtain⟨d1,_,h1⟩:=hs.gU
    obtain⟨d2,_,h2⟩:=hs2.gU
    have q1:=hS.obj b1 d1
    have q2:=hS.obj b2 d2
    rw[g1]at q1
    rw[g2]at q2
    obtain⟨a1,a2,arr,t,fr,a3,a4,a5,a6⟩:=q1
    obtain⟨p1,p2,Ky,t2,fr2,p3,p4,p5,p6⟩:=q2
    have hlive: ∀b cs,H.get b=some (.cells cs false)→live H b∧bL H b:=fun b cs hg=>by unfold live bL;rw[hg];exact⟨trivial,trivial⟩
    have hbb:R.blk b1≠R.blk b2:=fun e=>hne (hS.inj b1 b2 d1 d2 (hlive b1 _ g1).1 (hlive b2 _ g2).1 (.inl (hlive b1 _ g1).2) e)
    have e1: ∃c',u = .slice (some ⟨R.blk b1,R.base b1+o1,none⟩) n1 c':=h1.resolve_right fun h=>by omega
    have e2: ∃c',v = .slice (some ⟨R.blk b2,R.base b2+o2,none⟩) n2 c':=h2.resolve_right fun h=>by omega
    obtain⟨c1',rfl⟩:=e1
    obtain⟨c2',rfl⟩:=e2
    have hl2:0<cs2.length:=List.length_pos_iff.2 hc2
    refine Lib.run_overlaps_apart w tS tR e ht size (fun w=>dM hz w) ⟨R.blk b1,R.base b1+o1,none⟩ ⟨R.blk b2,R.base b2+o2,none⟩ n1 c1' n2 c2' hbb t t2 arr.size Ky.size (by simp[World.shape?,a3]) (by simp[World.shape?,p3]) (by omega) ?_ ?_
    ·have:=a6 rfl (R.base b1+o1) (by omega) (by omega)
     simp only[World.frozen?,a3]
     simpa using this
    ·have:=a6 rfl arr.size (by omega) (by omega)
     simp only[World.frozen?,a3]
     simpa using this
   refine⟨.bool false,w,?_,.bool false,_,R,H,rfl,hk,.bool false,hS,Ext.refl _ _ _⟩
   rw[run_callFunc_extern hf hname hb hn he,key]
   rfl
end
end
section
open Go Go.RowKit
section
variable {P:Program}
theorem Ab {K K':Value→aa→Prop}(hK: ∀v H',K v H'→K' v H'){R:Ren}{H:aa}{w w':World}{e:Ending}(h:jS K R H w e w'):jS K' R H w e w':=by
 obtain⟨r,r',R',H',h1,h2,h3⟩:=h
 exact⟨r,r',R',H',h1,hK _ _ h2,h3⟩
theorem Ht:wW (mK P) (mK P):=by
 rintro f a H K K' hK (⟨h1,h2⟩|⟨h1,h2⟩)
 ·exact .inl ⟨h1,fun R w args' hS hA=>(h2 R w args' hS hA).mono fun e w' h=>Ab hK h⟩
 ·refine .inr ⟨h1,fun R w args' hS hA=> ?_⟩
  obtain⟨r',w',h3,h4⟩:=h2 R w args' hS hA
  exact⟨r',w',h3,Ab hK h4⟩
def vk (P:Program)(f:FuncId)(g:ah):Prop:=∀args H K,Du P (mK P) g args H K→mK P f args H K
theorem Wt (hm:P.follows .mixedOrders=true){f:FuncId}{g:ah}(h:qM P f=some g):vk P f g:=by
 intro args H K hb
 refine Rj hm (IP:=fun f'=>if f'=f then some g else none) (X:=mK P) (fun f' g' e=> ?_) (fun _ _ _ _ h=>h) f args H K ?_
 ·split at e
  ·rename_i hf;subst hf;rw[h];exact e
  ·cases e
 ·intro Y hY
  have hle:wW (mK P) Y:=fun f a H K K' hK k=>hY _ _ _ _ (.inl (Ht f a H K K' hK k))
  exact hY _ _ _ _ (.inr ⟨g,by simp,AB hle (fun _ _ k=>k) hb⟩)
theorem Wu {IP:FuncId→Option ah}{X:bu}(ZA: ∀f g,IP f=some g→∃g0,g=TL P g0∧vk P f g0)(hX:jh P X)(hXm:wW X X):jh P (eH P IP X):=by
 intro f args H K h
 refine h (fun f args H K=>mK P f args H K) ?_
 intro f args H K hh
 rcases hh with hh|⟨g,hg,hb⟩
 ·exact hX f args H K hh
 ·obtain⟨g0,rfl,h0⟩:=ZA f g hg
  exact h0 args H K (AA Vh Ht (fun _ _ k=>k) hb)
theorem TP (hm:P.follows .mixedOrders=true){f:FuncId}{g:ah}(h:jF P f=some g): ∃g0,g=TL P g0∧vk P f g0:=by
 unfold jF at h
 simp only[Option.map_eq_some_iff]at h
 obtain⟨g0,h2,h3⟩:=h
 exact⟨g0,h3.symm,Wt hm h2⟩
theorem Oq {R:Ren}{H:aa}{w w':World}(hS:gT R H w)(hb:Below w.heap.size w w'):gT R H w'∧Ext R H w R H w':=by
 refine⟨⟨hS.lt,fun x hx=> ?_,hS.inj,hS.wf⟩,⟨R.le_refl,Nat.le_refl _,fun _ h=>.inl h,fun _ _ _=>rfl,fun _ _ h _=>h,fun k hk _=>hb.block k hk,fun b hb hl=>.inr ⟨b,hb,hl,rfl⟩,hb.size,hb.os,hb.tape,hb.output⟩⟩
 have ho:=hS.obj x hx
 cases hg:H.get x with
 |none=>rw[hg]at ho;exact ho.elim
 |some o=>
  by_cases hd:o = .dead
  ·subst hd;trivial
  ·rw[←hg]
   have hl:live H x:=by unfold live;rw[hg];cases o <;> first|trivial|exact absurd rfl hd
   refine ho.move R.le_refl hx fun y hy=> ?_
   rw[hb.block _ (hS.Tt hx hl)];exact hy
theorem K9 {R:Ren}{H:aa}{w w':World}{K:Value→aa→Prop}{v v':Value}(hS:gT R H w)(hb:Below w.heap.size w w')(hv:VR R v v')(hk:K v H):jS K R H w (.returned v') w':=
 ⟨v,v',R,H,rfl,hk,hv,(Oq hS hb).1,(Oq hS hb).2⟩
theorem Rz (hm:P.follows .mixedOrders=true){f gD:FuncId}{fn:Func}{sZ d:Nat}{oM oD:Oper}{A C:Code}{bA bC:fP}{io:bO}{rs:List wC}{first cap:List Operand}
 (hf:P.funcs[f]? =some fn) (hb:fn.body=some (.seq A (.seq (.region sZ #[oM,oD] false) C))) (hen: ∀(as:Array Value) w,(callFunc f as).run P w = .ok (.enter f as) w)
 (hA:comp P fn.ntmps A=some bA) (hCc:comp P fn.ntmps C=some bC) (hio:sU P oM=some io) (hmk:io = .aV gD first cap) (hdM:oM.dst=some d) (hgM:oM.guard=none) (hdn:d<fn.ntmps)
 (hgD:oD.guard=none) (hdD:oD.dst=none) (hr:mI P fn.results.toList=some rs)
 (qe5: ∀(a:Act) (w:World) (x y:Array Value),a.tmps.getD d undef = .func (.func gD) x y→(execOp a.eval oD).run P w = .ok (.defer {target:=.fn (.func gD) y,args:=x}) w)
 (hinv: ∀(x y:Array Value) (w:World),(invoke (.fn (.func gD) y) x).run P w = .ok (.enter gD (x++y)) w)
 (qio: ∀(x:Array Value) (w:World),x.size=first.length+cap.length→CallsD P gD x .returning w fun e u' w'=>(∃v,e = .returned v)∧u' = .returning∧w'=w):
 vk P f ⟨fn.ntmps,rs,.seq bA (.seq (.ops [⟨some d,io,none⟩]) bC)⟩:=by
 intro args H K hbody
 refine .inl ⟨hen,fun R w args' hS qe6=> ?_⟩
 obtain⟨hle,hwp⟩:=hbody
 have hlen:=qe6.length
 refine calls_of_wp_defers hf hb ?_
 have h0:iC fn.ntmps R (Dr args) (args'++Array.replicate (fn.ntmps-args'.size) undef):=by
  simp only at hle
  refine⟨by simp at hlen ⊢;omega,fun t=> ?_⟩
  unfold Dr
  have: ∀(l:List Value) (l':List Value),eT R l l'→∀t,VR R (l.getD t undef) (l'.getD t undef):=by
   intro l l' hl t
   cases hg:l[t]? with
   |none=>
    have:l'[t]? =none:=by rw[List.getElem?_eq_none_iff]at hg ⊢;rw[←hl.length];exact hg
    simp[List.getD,hg,this];exact VR.undef R
   |some v=>
    obtain⟨v',hv',hr⟩:=hl.get t v hg
    simp[List.getD,hg,hv'];exact hr
  have h3:=this _ _ qe6 t
  by_cases ht:t<args'.size
  ·have:(args'++Array.replicate (fn.ntmps-args'.size) undef).getD t undef=args'.toList.getD t undef:=by
    simp[Array.getD,List.getD,ht,Array.getElem?_append,show t<args'.size+(fn.ntmps-args'.size)by omega]
   rw[this];exact h3
  ·have e1:args'.toList.getD t undef=undef:=by simp[List.getD,ht]
   rw[e1]at h3
   have:(args'++Array.replicate (fn.ntmps-args'.size) undef).getD t undef=undef:=by
    simp[Array.getElem?_append,ht]
    by_cases h5:t-args'.size<fn.ntmps-args'.size <;> simp[h5]
   rw[this];exact h3
 have fin: ∀(dl:List Deferred),(dl=[]∨∃x y,dl=[{target:=.fn (.func gD) y,args:=x}]∧(x++y).size=first.length+cap.length)→∀(e:Exit) T' H' R' a' w',Dt ⟨fn.ntmps,rs,.seq bA (.seq (.ops [⟨some d,io,none⟩]) bC)⟩ K e T' H'→gT R' H' w'→iC fn.ntmps R' T' a'.tmps→a'.defers=dl→Ext R H w R' H' w'→bodyPostD P fn (jS K R H w) e a' w':=by
  intro dl hdl e T' H' R' a' w' k1 k2 k3 k4 k5
  have core:(∃v,gy T' H' rs=some v∧K v H')→Leaves P fn a'.tmps (jS K R H w) dl .returning w':=by
   rintro⟨v,h1,h2⟩
   obtain⟨v',h3,h4⟩:=Vg k2 k3 hr h1
   have hl:Leaves P fn a'.tmps (jS K R H w) [] .returning w':=⟨v',h3,v,v',R',H',rfl,h2,h4,k2,k5⟩
   rcases hdl with rfl|⟨x,y,rfl,hsz⟩
   ·exact hl
   ·refine leaves_cons (by simp) (hinv x y w') ((qio _ _ hsz).mono ?_)
    rintro e u' w'' ⟨⟨v,rfl⟩,rfl,rfl⟩
    exact hl
  cases e with
  |normal=>show Leaves P fn a'.tmps _ a'.defers .returning w';rw[k4];exact core k1
  |ret=>show Leaves P fn a'.tmps _ a'.defers .returning w';rw[k4];exact core k1
  |_=>exact k1.elim
 have hC0:jh P (fun f args H K=>mK P f args H K):=fun _ _ _ _ h=>h
 refine wp_seq (KT (n:=fn.ntmps) hm hC0 A bA _ _ R H _ _ w hA hwp hS h0 rfl ?_)
 intro e T1 H1 R1 a1 w1 g0 g1 g2 g3 g4 g5
 cases e with
 |normal=>
  refine wp_seq ?_
  refine wp_region_list ?_
  have hwant: ∀o:Oper,o.guard=none→∀(ops:Array Oper) (t:Array Value),Region.wanted o (yielded ops t)=true:=fun o ho ops t=>by simp[Region.wanted,ho]
  show wpList P _ _ [oM,oD] a1 w1
  unfold wpList
  rw[if_pos (hwant oM hgM _ _)]
  subst hmk
  have g1:wz P (fun f args H K=>mK P f args H K) (.seq (.ops [⟨some d,.aV gD first cap,none⟩]) bC) (Dt ⟨fn.ntmps,rs,.seq bA (.seq (.ops [⟨some d,.aV gD first cap,none⟩]) bC)⟩ K) T1 H1:=g1
  have g1':Dq P (fun f args H K=>mK P f args H K) T1 H1 (.aV gD first cap) (fun v H'=>v = .func (.func gD) (first.map (ev T1)).toArray (cap.map (ev T1)).toArray∧wz P (fun f args H K=>mK P f args H K) bC (Dt ⟨fn.ntmps,rs,.seq bA (.seq (.ops [⟨some d,.aV gD first cap,none⟩]) bC)⟩ K) (T1.put (some d) v) H'):=by
   obtain⟨v,h1,h2⟩:=g1
   refine⟨v,h1,?_,h2⟩
   simp only[bB,Option.some.injEq]at h1
   exact h1.symm
  refine .inl (TE hC0 g2 g3 hio g1' fun v v' R2 H2 w2 ⟨q0,q1⟩ q2 q3 q4=> ?_)
  subst q0
  obtain⟨x,y,rfl,hx,hy⟩: ∃x y,v' = .func (.func gD) x y∧eT R2 (first.map (ev T1)) x.toList∧eT R2 (cap.map (ev T1)) y.toList:=by
   cases q2 with
   |func _ _ _ x y h1 h2=>exact⟨x,y,rfl,h1,h2⟩
  have hsz:(x++y).size=first.length+cap.length:=by
   have h1:=hx.length;have h2:=hy.length
   simp at h1 h2
   simp[h1,h2]
  have h3:iC fn.ntmps R2 (T1.put (some d) (.func (.func gD) (first.map (ev T1)).toArray (cap.map (ev T1)).toArray)) (a1.put (some d) (.func (.func gD) x y)).tmps:=(g3.mono q4.le).put (fun _ h=>by injection h with h;subst h;exact hdn) q2
  rw[hdM]
  unfold wpList
  rw[if_pos (hwant oD hgD _ _)]
  refine .inl ?_
  unfold Oper.wp
  have hat:(a1.put (some d) (.func (.func gD) x y)).tmps.getD d undef = .func (.func gD) x y:=by
   have hd1:d<a1.tmps.size:=by rw[g3.size];exact hdn
   simp[Act.put,hd1]
  rw[qe5 _ w2 x y hat]
  rw[Oper.upon_defer,hdD]
  unfold wpList
  refine KT (n:=fn.ntmps) (D:=[{target:=.fn (.func gD) y,args:=x}]) hm hC0 C bC _ _ R2 H2 _ _ w2 hCc q1 q3 ?_ ?_ ?_
  ·exact h3
  ·show _::(a1.put (some d) (.func (.func gD) x y)).defers=_
   rw[put_defers,g4]
  ·intro e T' H' R' a' w' _ k1 k2 k3 k4 k5
   exact fin _ (.inr ⟨x,y,rfl,hsz⟩) e T' H' R' a' w' k1 k2 k3 k4 ((g5.trans q4).trans k5)
 |ret=>exact fin [] (.inl rfl) .ret T1 H1 R1 a1 w1 g1 g2 g3 g4 g5
 |_=>first|exact g1.elim|exact g0.elim
end
end
section
open Go Go.RowKit
def iU (g:FuncId)(Rel:List Value→Value→Prop):bu:=fun f args H K=>f=g∧∃r,Rel args r∧K r H
theorem je (g:FuncId)(Rel:List Value→Value→Prop):wW (iU g Rel) (iU g Rel):=by
 rintro f a H K K' hK ⟨h0,r,h1,h2⟩
 exact⟨h0,r,h1,hK _ _ h2⟩
section
variable {P:Program}
theorem Vi {R:Ren}{r:Value}(h:l9 r=true):VR R r r:=by
 cases r <;> simp[l9]at h <;> constructor
theorem qbX {R:Ren}{v v':Value}(h:l9 v=true)(hv:VR R v v'):v'=v:=by
 cases v <;> simp[l9]at h <;> (cases hv;rfl)
theorem xy {R:Ren}: ∀{l l':List Value},l.all l9=true→eT R l l'→l'=l
 |[],_,_,h=>by cases h;rfl
 |v::l,_,hs,h=>by
  cases h with
  |cons h1 h2=>
   simp only[List.all_cons,Bool.and_eq_true]at hs
   rw[qbX hs.1 h1,xy hs.2 h2]
theorem AO {g:FuncId}{Rel:List Value→Value→Prop}(hen: ∀(as:Array Value) (w:World),(callFunc g as).run P w = .ok (.enter g as) w)(hr: ∀args r,Rel args r→l9 r=true)
 (hC: ∀(R:Ren) args args' r,Rel args r→eT R args args'→∀w,Calls P g args'.toArray w fun e w'=>e = .returned r∧Below w.heap.size w w'):jh P (iU g Rel):=by
 rintro f args H K ⟨rfl,r,h1,hk⟩
 refine .inl ⟨hen,fun R w args' hS hA=> ?_⟩
 refine(hC R args args'.toList r h1 hA w).mono ?_
 rintro e w' ⟨rfl,hb⟩
 exact K9 hS hb (Vi (hr _ _ h1)) hk
theorem La {g:FuncId}{Rel:List Value→Value→Prop}(hno: ∀fn,P.funcs[g]? =some fn→fn.body.isNone=true)(hr: ∀args r,Rel args r→l9 r=true)
 (hC: ∀(R:Ren) args args' r,Rel args r→eT R args args'→∀w,(callFunc g args'.toArray).run P w = .ok (.value r) w):jh P (iU g Rel):=by
 rintro f args H K ⟨rfl,r,h1,hk⟩
 refine .inr ⟨hno,fun R w args' hS hA=>⟨r,w,?_,?_⟩⟩
 ·exact hC R args args'.toList r h1 hA w
 ·exact K9 hS (Below.refl _ _) (Vi (hr _ _ h1)) hk
def ZW (args:List Value)(r:Value):Prop:=∃(t:List UInt8) (b:UInt8),args=[ak t,.int .u8 (b.toNat:Nat)]∧r = .int .i64 (Lib.indexByte t b)
def ZX (args:List Value)(r:Value):Prop:=∃(t:List UInt8) (b:UInt8),args=[ak t,.int .u8 (b.toNat:Nat)]∧r = .int .i64 (Lib.countByte t b)
theorem qbY {g:FuncId}{fn:Func}(hf:P.funcs[g]? =some fn)(hname:(fn.name == "runtime.NumGoroutine")=false)(hb:fn.body.isNone=true)(hn:Extern.findNext fn=none)
 (he:Extern.find fn=some Extern.BytealgIndexByte.indexByte):jh P (iU g ZW):=by
 refine La (fun fn' h'=>by rw[hf]at h';injection h' with h';subst h';exact hb) ?_ ?_
 ·rintro args r ⟨t,b,rfl,rfl⟩;rfl
 ·rintro R args args' r ⟨t,b,rfl,rfl⟩ hA w
  have:=xy (by rfl) hA
  subst this
  have hbb:((b.toNat:Nat):Int).toNat.toUInt8=b:=by simp
  have key:=Lib.run_indexByteString (P:=P) ⟨t.toArray⟩ ((b.toNat:Nat):Int) w
  rw[hbb]at key
  rw[run_callFunc_extern hf hname hb hn he]
  unfold ak
  rw[key]
  rfl
theorem qbZ {g:FuncId}{fn:Func}(hf:P.funcs[g]? =some fn)(hname:(fn.name == "runtime.NumGoroutine")=false)(hb:fn.body.isNone=true)(hn:Extern.findNext fn=none)
 (he:Extern.find fn=some Extern.BytealgCount.count):jh P (iU g ZX):=by
 refine La (fun fn' h'=>by rw[hf]at h';injection h' with h';subst h';exact hb) ?_ ?_
 ·rintro args r ⟨t,b,rfl,rfl⟩;rfl
 ·rintro R args args' r ⟨t,b,rfl,rfl⟩ hA w
  have:=xy (by rfl) hA
  subst this
  have hbb:((b.toNat:Nat):Int).toNat.toUInt8=b:=by simp
  have key:=Lib.run_countString (P:=P) ⟨t.toArray⟩ ((b.toNat:Nat):Int) w
  rw[hbb]at key
  rw[run_callFunc_extern hf hname hb hn he]
  unfold ak
  rw[key]
  rfl
theorem PD {C:bu}(Nj:jh P C){f:FuncId}{v:Value}(hv:l9 v=true)(hcall:C f [] AJ (fun r _=>r=v)):jh P (DW f v):=by
 rintro g args H K ⟨rfl,rfl,hK⟩
 have fin: ∀R w (args':Array Value),gT R H w→eT R [] args'.toList→args' = #[]∧∀e w',jS (fun r _=>r=v) K5 AJ w e w'→jS K R H w e w':=by
  intro R w args' hS hA
  refine⟨by cases args' with|mk l=>cases hA;rfl,fun e w' he=> ?_⟩
  obtain⟨r,r',R2,H2,rfl,rfl,hvr,_,pR⟩:=he
  have hr:r'=r:=hvr.w9 hv
  subst hr
  have hold: ∀k,k<w.heap.size→w'.heap[k]? =w.heap[k]? :=fun k hk=>pR.frame k hk fun b hb=>hb.elim
  refine⟨r',r',R,H,rfl,hK,VR.qN R hv,⟨hS.lt,fun b hb=> ?_,hS.inj,hS.wf⟩,⟨R.le_refl,Nat.le_refl _,fun _ h=>.inl h,fun _ _ _=>rfl,fun _ _ h _=>h,fun k hk _=>hold k hk,fun b hb hl=>.inr ⟨b,hb,hl,rfl⟩,pR.size,pR.os,pR.tape,pR.output⟩⟩
  have ho:=hS.obj b hb
  cases hg:H.get b with
  |none=>rw[hg]at ho;exact ho.elim
  |some o=>
   by_cases hd:o = .dead
   ·subst hd;trivial
   ·rw[←hg]
    have hl:live H b:=by unfold live;rw[hg];cases o <;> first|trivial|exact absurd rfl hd
    refine ho.move R.le_refl hb fun y hy=> ?_
    rw[hold _ (hS.Tt hb hl)];exact hy
 rcases Nj g [] AJ _ hcall with⟨h1,h2⟩|⟨h1,h2⟩
 ·refine .inl ⟨h1,fun R w args' hS hA=> ?_⟩
  obtain⟨rfl,hf⟩:=fin R w args' hS hA
  exact(h2 K5 w #[] (AL w).zU .nil).mono hf
 ·refine .inr ⟨h1,fun R w args' hS hA=> ?_⟩
  obtain⟨rfl,hf⟩:=fin R w args' hS hA
  obtain⟨r',w',h3,h4⟩:=h2 K5 w #[] (AL w).zU .nil
  exact⟨r',w',h3,hf _ _ h4⟩
end
end
end Go.Proofs.YtofpmkhcbijilaaGreatDoorI
