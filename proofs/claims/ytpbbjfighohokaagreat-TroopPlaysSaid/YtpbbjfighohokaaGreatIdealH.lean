/- Operations that turn nothing: the model's, held against the ideal ones. / Each operation that turns nothing yields in the model what it yields in the ideal heap. / All operations that turn nothing, in one. / Operations that make one new thing. -/
import Derived.Test.YtpbbjfighohokaaGreatIdealD
namespace Go.Proofs.YtpbbjfighohokaaGreatI
open Go
set_option linter.unusedSimpArgs false
set_option linter.unusedVariables false
section
theorem NV {α β:Type}(P:Program)(s:Sem α)(f:α→Sem β):aB P (s.bind f)=(aB P s).bind fun a=>aB P (f a):=by
 induction s with
 |pure b=>rfl
 |program k ih=>simp only[Sem.bind,aB];exact ih _
 |mark m k ih=>simp only[Sem.bind,aB];exact ih
 |_=>rfl
theorem aM {α β:Type}(P:Program)(s:Sem α)(f:α→Sem β):aB P (s >>= f)=(aB P s).bind fun a=>aB P (f a):=NV P s f
theorem nS {α:Type}(P:Program)(a:α):aB P (pure a:Sem α)=some a:=rfl
theorem cz {P:Program}{t:TypeId}{d:TypeDesc}(h:P.underlying t=some d):aB P (underlying t)=some d:=by
 unfold underlying;rw[aM];show aB P (match P.underlying t with|some d=>_|none=>_)=_;rw[h];rfl
section
variable {P:Program} {n:Nat} {R:Ren} {H:aa} {w:World} {T:Env} {a:Act}
theorem aL {l:List Operand}(h:uw l=true){x:Operand}(hx:x ∈ l):okO x=true:=List.all_eq_true.1 h x hx
theorem Kk {o:Oper}(hT:kY n R T a.tmps)(hsel: ∀cs b,o.op ≠ .select cs b)(hok:uw o.op.operands.toList=true){v:Value}
 (h:bL P T H (.raw o.op o.type)=some v) (w:World): ∃v',(execOp a.eval o).run P w = .ok (.value v') w∧VR R v v':=by
 simp only[bL]at h
 split at h
 ·rename_i hs
  split at h
  ·rename_i u hu
   split at h
   ·rename_i hsc
    injection h with h
    subst h
    refine⟨u,?_,VR.NT R hsc⟩
    have e:execOp a.eval o=execOp (ev T) o:=execOp_congr o hsel fun x hx=>by
     have hx':x ∈ o.op.operands.toList:=by simpa using hx
     exact(bz hT (aL hok hx')).wV (List.all_eq_true.1 hs x hx')
    rw[e]
    exact ql (s:=execOp (ev T) o) hu w
   ·cases h
  ·cases h
 ·cases h
theorem VR.qY {v':Value}{k:IntKind}{i:Int}(h:VR R (.int k i) v'):v' = .int k i:=by cases h;rfl
theorem VR.KJ {v':Value}{b:Bool}(h:VR R (.bool b) v'):v' = .bool b:=by cases h;rfl
theorem VR.RH {v':Value}{s:ByteArray}(h:VR R (.string s) v'):v' = .string s:=by cases h;rfl
theorem VR.qc {v':Value}{b o:Nat}(h:VR R (.pointer (some ⟨b,o,none⟩)) v'):v' = .pointer (some ⟨R.blk b,R.base b+o,none⟩)∧R.dom b:=by
 cases h;exact⟨rfl,by assumption⟩
theorem VR.map_nil {v':Value}(h:VR R (.map none) v'):v' = .map none:=by cases h;rfl
theorem VR.map_some {v':Value}{r:Nat}(h:VR R (.map (some r)) v'):v' = .map (some (R.blk r))∧R.dom r:=by cases h;exact⟨rfl,by assumption⟩
theorem VR.Vu {v':Value}{x:Addr}(h:VR R (.pointer (some x)) v'): ∃y,v' = .pointer (some y):=by cases h;exact⟨_,rfl⟩
theorem VR.Kl {v':Value}{cs:Array Value}(h:VR R (.agg cs) v'): ∃cs',v' = .agg cs'∧fE R cs.toList cs'.toList:=by cases h;exact⟨_,rfl,by assumption⟩
theorem VR.TW {v':Value}{cs:Array Value}(h:VR R (.tuple cs) v'): ∃cs',v' = .tuple cs'∧fE R cs.toList cs'.toList:=by cases h;exact⟨_,rfl,by assumption⟩
theorem VR.MQ {v' v:Value}{t:TypeId}(h:VR R (.iface t v) v'): ∃u,v' = .iface t u∧VR R v u:=by cases h;exact⟨_,rfl,by assumption⟩
theorem VR.PO {v':Value}{f:FuncId}{x y:Array Value}(h:VR R (.func (.func f) x y) v'): ∃x' y',v' = .func (.func f) x' y'∧fE R x.toList x'.toList∧fE R y.toList y'.toList:=by
 cases h;exact⟨_,_,rfl,by assumption,by assumption⟩
theorem VR.Ay {v':Value}{x:Option Addr}{l c:Nat}(h:VR R (.slice x l c) v'): ∃x' c',v' = .slice x' l c':=by
 cases h <;> exact⟨_,_,rfl⟩
theorem VR.Az {v':Value}{l c:Nat}(h:VR R (.slice none l c) v'):v' = .slice none 0 0∧l=0∧c=0:=by cases h;exact⟨rfl,rfl,rfl⟩
theorem VR.iM {v':Value}{x:Addr}{l c:Nat}(h:VR R (.slice (some x) l c) v'):R.dom x.block∧x.spot=none ∧
 ((∃c',v' = .slice (some ⟨R.blk x.block,R.base x.block+x.off,none⟩) l c')∨(l=0∧∃a',v' = .slice (some a') 0 0)):=by
 cases h with
 |fP b o _ _ hb=>exact⟨hb,rfl,.inl ⟨_,rfl⟩⟩
 |je b o _ _ _ hb=>exact⟨hb,rfl,.inl ⟨_,rfl⟩⟩
 |kL b o _ _ hb=>exact⟨hb,rfl,.inr ⟨rfl,_,rfl⟩⟩
 |mO b o _ hb=>exact⟨hb,rfl,.inr ⟨rfl,_,rfl⟩⟩
theorem vz (hT:kY n R T a.tmps){x:Operand}(hx:okO x=true){i:Nat}(h:nL T x=some i): ∃k z,a.eval x = .int k z∧0≤z∧z.toNat=i:=by
 have hr:=bz hT hx
 unfold nL at h
 cases he:ev T x <;> rw[he]at h hr <;> simp at h
 exact⟨_,_,hr.qY,h.1,h.2⟩
theorem lK {x:Operand}{i:Int}{y:Nat}{code:BoundsCode}{k:IntKind}(he:a.eval x = .int k i)(h0:0≤i)(hy:i.toNat≤y):
 (Instr.sliceBound (a.eval x) y code).run P w = .ok i.toNat w:=by
 unfold Instr.sliceBound
 rw[he]
 simp only[asIntOf,pure_bind]
 rw[if_pos ⟨h0,by omega⟩]
 rfl
theorem KL (hT:kY n R T a.tmps){lo hi mx:Option Operand}(hl: ∀x,lo=some x→okO x=true)(hh: ∀x,hi=some x→okO x=true)(hm: ∀x,mx=some x→okO x=true)
 {len c' l h:Nat} {m:Option Nat} {isS:Bool} (hb:eU T len lo hi mx=some (l,h,m)) (hmc: ∀x,m=some x→x≤c') (hhc:m=none→h≤c'):
 (Instr.sliceBounds isS len c' (lo.map a.eval) (hi.map a.eval) (mx.map a.eval)).run P w = .ok (l,h,m.getD c') w∧l≤h∧(∀x,m=some x→h≤x):=by
 unfold eU at hb
 split at hb
 ·rename_i m' h' l' hm' hh' hl'
  split at hb
  ·rename_i hc
   simp only[Option.some.injEq,Prod.mk.injEq]at hb
   obtain⟨rfl,rfl,rfl⟩:=hb
   have hmx: ∀x,m'=some x→h'≤x:=by rintro x rfl;simpa using hc.2
   refine⟨?_,hc.1,hmx⟩
   have hmq:=hmc
   clear hmc
   unfold Instr.sliceBounds
   cases mx with
   |none=>
    simp only[Option.some.injEq]at hm'
    subst hm'
    have hhq:=hhc rfl
    cases hi with
    |none=>
     simp at hh'
     subst hh'
     cases lo with
     |none=>simp at hl';subst hl';rfl
     |some v=>
      obtain⟨k,z,hz,h0,hq⟩:=vz hT (hl v rfl) hl'
      subst hq
      simp only[Option.map_some,Option.map_none,Option.getD_none,Option.isSome_none,pure_bind,Sem.run_bind]
      rw[lK hz h0 hc.1]
      rfl
    |some u=>
     obtain⟨k,z,hz,h0,hq⟩:=vz hT (hh u rfl) hh'
     subst hq
     cases lo with
     |none=>
      simp at hl'
      subst hl'
      simp only[Option.map_some,Option.map_none,Option.getD_none,pure_bind,Sem.run_bind]
      rw[lK hz h0 hhq]
      rfl
     |some v=>
      obtain⟨k2,z2,hz2,h02,hq2⟩:=vz hT (hl v rfl) hl'
      subst hq2
      simp only[Option.map_some,Option.map_none,Option.getD_none,pure_bind,Sem.run_bind]
      rw[lK hz h0 hhq]
      simp only[Result.andThen_ok]
      rw[lK hz2 h02 hc.1]
      rfl
   |some x=>
    cases hx:nL T x with
    |none=>simp[hx]at hm'
    |some q=>
     simp only[hx,Option.map_some,Option.some.injEq]at hm'
     subst hm'
     obtain⟨k3,z3,hz3,h03,hq3⟩:=vz hT (hm x rfl) hx
     have hqc:=hmq _ rfl
     have hhq:=hmx _ rfl
     subst hq3
     cases hi with
     |none=>simp at hh'
     |some u=>
      obtain⟨k,z,hz,h0,hq⟩:=vz hT (hh u rfl) hh'
      subst hq
      cases lo with
      |none=>
       simp at hl'
       subst hl'
       simp only[Option.map_some,Option.map_none,Option.getD_some,Sem.run_bind]
       rw[lK hz3 h03 hqc]
       simp only[Result.andThen_ok]
       rw[lK hz h0 hhq]
       rfl
      |some v=>
       obtain⟨k2,z2,hz2,h02,hq2⟩:=vz hT (hl v rfl) hl'
       subst hq2
       simp only[Option.map_some,Option.getD_some,Sem.run_bind]
       rw[lK hz3 h03 hqc]
       simp only[Result.andThen_ok]
       rw[lK hz h0 hhq]
       simp only[Result.andThen_ok]
       rw[lK hz2 h02 hc.1]
       rfl
  ·cases hb
 ·cases hb
theorem KM (hS:jC R H w){size len cap l h:Nat}{m:Option Nat}{x:Option Addr}{v y:Value}(hv:VR R (.slice x len cap) v)(hlh:l≤h)(hhm: ∀q,m=some q→h≤q)
 (hi:cZ H size x len cap l h m=some y): ∃x' c',v = .slice x' len c'∧(∀q,m=some q→q≤c')∧(m=none→h≤c') ∧
   VR R y (.slice (if m.getD c'=l then x' else x'.map (·.add (l*size))) (h-l) (m.getD c'-l)):=by
 have hmax:h≤m.getD h:=by cases m with|none=>exact Nat.le_refl _|some q=>exact hhm q rfl
 cases hv with
 |vk=>
  unfold cZ at hi
  rw[if_pos (by unfold dY;omega)]at hi
  split at hi
  ·rename_i hc
   injection hi with hi
   refine⟨none,0,rfl,?_,?_,?_⟩
   ·rintro q rfl;simpa using hc.2
   ·rintro rfl;simpa using hc.1
   ·have:m.getD 0=0:=by omega
    have hl:l=0:=by omega
    have hh:h=0:=by omega
    subst hl;subst hh
    rw[←hi,this]
    simp
    exact .vk
  ·cases hi
 |fP b o len c hb hc=>
  unfold cZ at hi
  rw[if_pos hc]at hi
  split at hi
  ·rename_i hc'
   injection hi with hi
   refine⟨_,_,rfl,?_,?_,?_⟩
   ·rintro q rfl;simpa using hc'.2
   ·rintro rfl;simpa using hc'.1
   ·rw[←hi]
    by_cases hz:m.getD cap=l
    ·simp only[hz,if_true]
     exact .fP b o _ _ hb (by omega)
    ·simp only[if_neg hz,Option.map_some,add_lit]
     rw[Nat.add_assoc]
     exact .fP b _ _ _ hb (by omega)
  ·cases hi
 |mO b o a' hb=>
  unfold cZ at hi
  rw[if_pos (by unfold dY;omega)]at hi
  split at hi
  ·rename_i hc
   injection hi with hi
   refine⟨_,0,rfl,?_,?_,?_⟩
   ·rintro q rfl;simpa using hc.2
   ·rintro rfl;simpa using hc.1
   ·have:m.getD 0=0:=by omega
    have hl:l=0:=by omega
    have hh:h=0:=by omega
    subst hl;subst hh
    rw[←hi,this]
    simp
    exact .mO _ _ _ hb
  ·cases hi
 |je b o len c e hb he hlc Aw h1 h2=>
  unfold cZ at hi
  rw[if_neg (by unfold dY;omega)]at hi
  simp only[]at hi
  split at hi
  ·rename_i hsz
   have hes:e=size:=by have:=hsz.1;omega
   subst hes
   have hcond:=hsz.2.2
   ·have hle:m.getD h≤c:=by
     rcases hcond with hq|hq
     ·omega
     ·have ho:=hS.obj b hb
      cases hg:H.get b with
      |none=>simp[y5,hg]at hq
      |some ob=>
       cases ob with
       |cells cs ro=>
        rw[hg]at ho
        simp[y5,hg]at hq
        have hcs:=ho.1
        have:m.getD h*e≤c*e:=by omega
        exact Nat.le_of_mul_le_mul_right this he
       |_=>simp[y5,hg]at hq
    refine⟨_,c,rfl,?_,?_,?_⟩
    ·rintro q rfl;simpa using hle
    ·rintro rfl;simpa using hle
    ·cases m with
     |none=>
      simp only[Option.some.injEq]at hi
      subst hi
      simp only[Option.getD_none]at hle ⊢
      by_cases hz:c=l
      ·have:h=l:=by omega
       subst this;subst hz
       simp only[if_true,Nat.sub_self]
       exact .kL b _ e _ hb he h1
      ·rw[if_neg hz]
       simp only[Option.map_some,add_lit]
       rw[Nat.add_assoc]
       have hmul:l*e+(c-l)*e=c*e:=by rw[←Nat.add_mul];congr 1;omega
       exact .je b _ _ _ e hb he (by omega) (by omega) (by omega) (by omega)
     |some q=>
      simp only[Option.getD_some]at hle ⊢
      simp only[]at hi
      split at hi
      ·rename_i hq
       injection hi with hi
       subst hi
       by_cases hz:q=l
       ·simp only[hz,if_true]
        exact .fP b o _ _ hb (by omega)
       ·simp only[if_neg hz,Option.map_some,add_lit]
        rw[Nat.add_assoc]
        exact .fP b _ _ _ hb (by omega)
      ·cases hi
  ·cases hi
 |kL b o e a' hb he h1=>
  unfold cZ at hi
  rw[if_neg (by unfold dY;omega)]at hi
  simp only[]at hi
  split at hi
  ·rename_i hsz
   have hes:e=size:=by have:=hsz.1;omega
   subst hes
   have hcond:=hsz.2.2
   ·have hz:m.getD h=0:=by
     rcases hcond with hq|hq
     ·omega
     ·have ho:=hS.obj b hb
      cases hg:H.get b with
      |none=>simp[y5,hg]at hq
      |some ob=>
       cases ob with
       |cells cs ro=>
        rw[hg]at ho
        simp[y5,hg]at hq
        have hcs:=ho.1
        have:m.getD h*e≤0*e:=by omega
        have:=Nat.le_of_mul_le_mul_right this he
        omega
       |_=>simp[y5,hg]at hq
    have hh:h=0:=by omega
    have hl:l=0:=by omega
    subst hh;subst hl
    refine⟨_,0,rfl,?_,?_,?_⟩
    ·rintro q rfl;simpa using hz
    ·rintro rfl;exact Nat.zero_le _
    ·cases m with
     |none=>
      simp only[Option.some.injEq]at hi
      subst hi
      simp
      exact .kL b o e _ hb he h1
     |some q=>
      simp only[Option.getD_some]at hz
      subst hz
      simp at hi
      obtain⟨_,hi⟩:=hi
      subst hi
      simp
      exact .mO _ _ _ hb
  ·cases hi
theorem y9 {kt:TypeId}{k:Value}: ∀{es es':List MapEntry},dz R es es'→(∀e ∈ es,lV e.key=true)→∀(i:Nat) (r:Option Nat),qU P kt k es i=some r →
 (Instr.findAsking kt k es' i).run P w = .ok (r.bind fun j=>(es'[j-i]?).map fun e=>(j,e.val)) w∧(∀j,r=some j→i≤j∧j-i<es'.length)
 |_,_,.nil,_,i,r,h=>by
  simp only[qU,Option.some.injEq]at h
  subst h
  exact⟨rfl,by simp⟩
 |_,_,.cons (e:=e) (e':=e') (l:=es) (l':=es') he hes,hs,i,r,h=>by
  have hk:e'.key=e.key:=he.key.wV (hs e (by simp))
  simp only[qU]at h
  simp only[Instr.findAsking,Sem.run_bind,hk]
  split at h
  ·rename_i hq
   injection h with h
   subst h
   rw[ql hq]
   exact⟨by simp,by simp⟩
  ·rename_i hq
   rw[ql hq]
   obtain⟨h1,h2⟩:=y9 hes (fun e he=>hs e (by simp[he])) (i+1) r h
   refine⟨?_,fun j hj=> ?_⟩
   ·simp only[Result.andThen_ok,Bool.false_eq_true,if_false]
    rw[h1]
    cases r with
    |none=>rfl
    |some j=>
     obtain⟨h3,h4⟩:=h2 j rfl
     simp only[Option.bind_some]
     rw[show j-i=(j-(i+1))+1 by omega,List.getElem?_cons_succ]
   ·obtain⟨h3,h4⟩:=h2 j hj
    exact⟨by omega,by simp;omega⟩
  ·cases h
theorem Dn {kt:TypeId}{d:TypeDesc}(hu:P.underlying kt=some d){k x:Value}{b:Bool}(h:Instr.sameNow d k x=some b):aB P (Op.equal kt k x)=some b:=by
 unfold Op.equal Op.maxDepth
 rw[show(10000:Nat)=9999+1 from rfl]
 unfold Op.equalIn
 rw[aM,cz hu]
 simp only[Option.bind_some]
 unfold Instr.sameNow at h
 split at h
 ·split at h
  ·rename_i hk;simp only[hk,if_true];injection h with h;subst h;rfl
  ·cases h
 ·injection h with h;subst h;rfl
 ·injection h with h;subst h;rfl
 ·cases h
theorem Ij {kt:TypeId}{d:TypeDesc}(hu:P.underlying kt=some d){k:Value}: ∀{es es':List MapEntry},dz R es es'→(∀e ∈ es,lV e.key=true)→∀(i:Nat) (r:Option Nat) (q:Option (Nat×Value)),
 qU P kt k es i=some r→Instr.findNow d k es' i=some q→q=r.bind fun j=>(es'[j-i]?).map fun e=>(j,e.val)
 |_,_,.nil,_,i,r,q,h,h'=>by
  simp only[qU,Option.some.injEq]at h
  subst h
  simp[Instr.findNow]at h'
  simp[←h']
 |_,_,.cons (e:=e) (e':=e') (l:=es) (l':=es') he hes,hs,i,r,q,h,h'=>by
  have hk:e'.key=e.key:=he.key.wV (hs e (by simp))
  simp only[qU]at h
  simp only[Instr.findNow,hk]at h'
  split at h'
  ·rename_i hq
   rw[Dn hu hq]at h
   simp only[Option.some.injEq]at h h'
   subst h;subst h'
   simp
  ·rename_i hq
   rw[Dn hu hq]at h
   simp only[]at h
   have ih:=Ij hu hes (fun e he=>hs e (by simp[he])) (i+1) r q h h'
   rw[ih]
   cases r with
   |none=>rfl
   |some j=>
    have h2:=(y9 (P:=P) (w:=default) hes (fun e he=>hs e (by simp[he])) (i+1) (some j) h).2 j rfl
    simp only[Option.bind_some]
    rw[show j-i=(j-(i+1))+1 by omega,List.getElem?_cons_succ]
  ·cases h'
theorem vC {kt:TypeId}{d:TypeDesc}(hu:P.underlying kt=some d){k:Value}{es:List MapEntry}{es':List MapEntry}(he:dz R es es')(hs: ∀e ∈ es,lV e.key=true){r:Option Nat}
 (h:qU P kt k es 0=some r):(Instr.findKey kt k es').run P w = .ok (r.bind fun j=>(es'[j]?).map fun e=>(j,e.val)) w∧(∀j,r=some j→j<es'.length):=by
 obtain⟨h1,h2⟩:=y9 (P:=P) (w:=w) he hs 0 r h
 refine⟨?_,fun j hj=>by simpa using(h2 j hj).2⟩
 unfold Instr.findKey
 simp only[Sem.run_bind,aJ hu,Result.andThen_ok]
 split
 ·rename_i q hq
  rw[Ij hu he hs 0 r q h hq]
  simp
 ·simpa using h1
theorem Dp {kt:TypeId}{k:Value}{es:List MapEntry}(h:CW P kt k es=true):lV k=true∧(∀e ∈ es,lV e.key=true) ∧
 (∀w,(Instr.checkKey es.isEmpty 10000 kt k).run P w = .ok () w)∧(∀w,(Instr.checkKey false 10000 kt k).run P w = .ok () w)∧∃d,P.underlying kt=some d:=by
 unfold CW at h
 simp only[Bool.and_eq_true,List.all_eq_true]at h
 obtain⟨⟨⟨h1,h2⟩,h3⟩,h4⟩:=h
 obtain⟨u,hu⟩:=Option.isSome_iff_exists.1 h4
 obtain⟨u',hu'⟩:=Option.isSome_iff_exists.1 h3
 refine⟨h1,h2,fun w=>ql hu' w,fun w=>ql hu w,?_⟩
 cases hq:P.underlying kt with
 |some d=>exact⟨d,rfl⟩
 |none=>
  exfalso
  rw[show(10000:Nat)=9999+1 from rfl]at hu
  unfold Instr.checkKey at hu
  rw[aM]at hu
  simp[underlying,aM,aB,program,hq,stuck]at hu
end
end
section
section
variable {P:Program} {n:Nat} {R:Ren} {H:aa} {w:World} {T:Env} {a:Act}
theorem MR (P:Program)(w:World): ∀(l:List Value) (l8:List UInt8) (acc:ByteArray),pJ l=some l8 →
 (forIn l acc (fun(c:Value) (r:ByteArray)=>(match c with
   | .int .u8 n=>do
     let s:=r.push (UInt8.ofNat n.toNat)
     pure (ForInStep.yield s)
   |_=>stuck "bytesToString: byte expected" :Sem (ForInStep ByteArray)))).run P w = .ok ⟨acc.data++l8.toArray⟩ w
 |[],l8,acc,h=>by
  simp only[pJ,Option.some.injEq]at h
  subst h
  simp
 |v::l,l8,acc,h=>by
  unfold pJ at h
  split at h
  ·rename_i h1;cases h1
  ·rename_i k r hv
   injection hv with h1 h2
   subst h1;subst h2
   cases hr:pJ l with
   |none=>simp[hr]at h
   |some r8=>
    simp only[hr,Option.map_some,Option.some.injEq]at h
    subst h
    simp only[List.forIn_cons,Sem.run_bind,Sem.run_pure,Result.andThen_ok]
    rw[MR P w l r8 _ hr]
    simp[ByteArray.push]
  ·cases h
theorem KN: ∀{l l':List Value} {b:List UInt8},fE R l l'→pJ l=some b→pJ l'=some b
 |_,_,_,.nil,h=>h
 |_,_,b,.cons (v:=v) (v':=v') (l:=l) (l':=l') hv hs,h=>by
  unfold pJ at h
  split at h
  ·rename_i h1;cases h1
  ·rename_i k r he
   injection he with h1 h2
   subst h1;subst h2
   rw[hv.qY]
   cases hr:pJ l with
   |none=>rw[hr]at h;simp at h
   |some r8=>simp only[pJ];rw[KN hs hr];rw[hr]at h;exact h
  ·cases h
theorem RI {v v':Value}{k:Nat}{b:Bool}(hv:VR R v v')(h:aT k v=some b):aT k v'=some b:=by
 rcases k with _|_|_|_|_|k <;> cases hv <;> first|exact h|(simp[aT]at h;done)|(simp[aT]at h ⊢;exact h)
theorem Tq {t:TypeId}{d:TypeDesc}{c x:Value}{k:Nat}{b:Bool}(hu:P.underlying t=some d)(hk:Ey d c=some k)(hx:aT k x=some b)(w:World):
 (Op.equal t x c).run P w = .ok b w:=by
 unfold Op.equal Op.maxDepth
 rw[show(10000:Nat)=9999+1 from rfl]
 unfold Op.equalIn
 simp only[Sem.run_bind,aJ hu,Result.andThen_ok]
 unfold Ey at hk
 split at hk <;> simp at hk <;> subst hk <;> unfold aT at hx <;> split at hx <;> simp_all <;> (try subst_vars) <;> first
  |rfl
  |(rename_i a _;cases a <;> rfl)
  |skip
 all_goals (first|rfl|(rename_i a _ _ _;cases a <;> rfl)|(rename_i a _ _;cases a <;> rfl)|(rename_i a;cases a <;> rfl))
theorem TY {t:TypeId}{d:TypeDesc}{c v:Value}{k:Nat}{b:Bool}{op:BinOp}{x:Operand}(hk:Ey d c=some k)(hx:aT k v=some b)(w:World):
 (eqGuard op t x (.const c) v c).run P w = .ok () w:=by
 unfold Ey at hk
 split at hk <;> simp at hk <;> subst hk <;> unfold aT at hx <;> split at hx <;> simp_all <;> cases op <;> first|rfl|(cases x <;> rfl)
theorem Mm {t:TypeId}{c u:Value}{k:Nat}{b:Bool}(hx:aT k u=some b):binOp .eql t u c=(do pure (.bool (←Op.equal t u c))):=by
 unfold aT at hx;split at hx <;> first|rfl|cases hx
theorem Mo {t:TypeId}{c u:Value}{k:Nat}{b:Bool}(hx:aT k u=some b):binOp .neq t u c=(do pure (.bool (!(←Op.equal t u c)))):=by
 unfold aT at hx;split at hx <;> first|rfl|cases hx
theorem Vv {dst:Option Tmp}{t yt ty:TypeId}{x y:Operand}{pos:String}{after:Array Edge}{g:Option (Nat×Bool)}{op:BinOp}{neg:Bool}{v:Value}
 (hop:(op = .eql∧neg=false)∨(op = .neq∧neg=true)) (hT:kY n R T a.tmps) (hok:uw (Op.binOp op t x y yt).operands.toList=true)
 (h:bL P T H (wU P (.binOp op t x y yt) ty neg t x y)=some v) (w:World):
 ∃v',(execOp a.eval ⟨dst,.binOp op t x y yt,ty,pos,after,g⟩).run P w = .ok (.value v') w∧VR R v v':=by
 unfold wU at h
 split at h
 ·rename_i x' _ _ _ d c hu
  split at h
  ·rename_i k hk
   simp only[bL]at h
   cases hx:aT k (ev T x')with
   |none=>rw[hx]at h;simp at h
   |some b=>
    rw[hx]at h
    simp only[Option.map_some,Option.some.injEq]at h
    subst h
    have hox:okO x'=true:=aL hok (by simp[Op.operands])
    have hx':=RI (bz hT hox) hx
    refine⟨.bool (b != neg),?_,.bool _⟩
    have he:a.eval (.const c)=c:=rfl
    simp only[execOp,Sem.run_bind,he]
    rw[TY hk hx']
    simp only[Result.andThen_ok]
    rcases hop with⟨rfl,rfl⟩|⟨rfl,rfl⟩
    ·rw[Mm hx']
     simp[Tq hu hk hx']
    ·rw[Mo hx']
     simp[Tq hu hk hx']
  ·exact Kk (o:=⟨dst,.binOp op t x' (.const c) yt,ty,pos,after,g⟩) hT (by intro _ _;simp) hok h w
 ·exact Kk (o:=⟨dst,.binOp op t _ _ yt,ty,pos,after,g⟩) hT (by intro _ _;simp) hok h w
theorem PR {mv:Value}{es:List MapEntry}(hS:jC R H w)
 (hes:qj H mv=some es) {mv':Value} (hm:VR R mv mv'):
 (mv = .map none∧mv' = .map none∧es=[])∨∃(r:Nat) (cl:Nat) (es':Array MapEntry),mv = .map (some r)∧mv' = .map (some (R.blk r))∧R.dom r∧H.get r=some (.map es cl)∧w.heap[R.blk r]? =some (.map es' cl)∧dz R es es'.toList:=by
 unfold qj at hes
 split at hes
 ·simp only[Option.some.injEq]at hes
  subst hes
  cases hm
  exact .inl ⟨rfl,rfl,rfl⟩
 ·split at hes
  ·rename_i r _ es0 cl hg
   injection hes with hes
   subst hes
   cases hm with
   |map _ hr=>
    have ho:=hS.obj _ hr
    rw[hg]at ho
    obtain⟨es',hw,hrel⟩:=ho
    exact .inr ⟨_,cl,es',rfl,rfl,hr,hg,hw,hrel⟩
  ·cases hes
 ·cases hes
theorem dz.isEmpty {es:List MapEntry}{es':Array MapEntry}(h:dz R es es'.toList):es'.isEmpty=es.isEmpty:=by
 have:=h.length
 cases es with
 |nil=>simp only[List.length_nil,Array.length_toList]at this;simp[Array.isEmpty,←this]
 |cons x xs=>simp only[List.length_cons,Array.length_toList]at this;simp[Array.isEmpty,←this]
theorem RJ {dst:Option Tmp}{t ty:TypeId}{m k:Operand}{ok:Bool}{pos:String}{after:Array Edge}{g:Option (Nat×Bool)}{v zero:Value}{kt e:TypeId}
 (hS:jC R H w) (hT:kY n R T a.tmps) (hu:P.underlying t=some (.map kt e)) (hz:fU P e=some zero) (XN:okO m=true) (hok:okO k=true)
 (h:bL P T H (.lookup kt zero ok m k)=some v):
 ∃v',(execOp a.eval ⟨dst,.lookup t m k ok,ty,pos,after,g⟩).run P w = .ok (.value v') w∧VR R v v':=by
 simp only[bL]at h
 split at h
 ·rename_i es hes
  split at h
  ·rename_i hko
   obtain⟨hk1,hk2,hk3,hk4,d,hd⟩:=Dp hko
   have hkk:a.eval k=ev T k:=(bz hT hok).wV hk1
   have hent:=PR hS hes (bz hT XN)
   have EF:=jU hz w
   have hfin: ∀es':Array MapEntry,dz R es es'.toList→∃v',(do
    Instr.checkKey es'.isEmpty 10000 kt (a.eval k)
    match ←Instr.findKey kt (a.eval k) es'.toList with
    |some (_,v)=>do
     let (v,b) ←pure (v,true)
     pure (if ok then .tuple #[v,.bool b]else v)
    |none=>do
     let z ←zeroValue e
     let (v,b) ←pure (z,false)
     pure (if ok then .tuple #[v,.bool b]else v):Sem Value).run P w = .ok v' w∧VR R v v':=by
    intro es' hrel
    split at h
    ·rename_i i hfi
     obtain⟨h1,h2⟩:=vC (P:=P) (w:=w) hd hrel hk2 hfi
     split at h
     ·rename_i en hen
      obtain⟨en',hen',her⟩:=hrel.get i en hen
      injection h with h
      subst h
      refine⟨if ok then .tuple #[en'.val,.bool true]else en'.val,?_,?_⟩
      ·simp only[Sem.run_bind]
       rw[hrel.isEmpty,hkk,hk3]
       simp only[Result.andThen_ok]
       rw[h1]
       simp only[Option.bind_some,hen',Option.map_some,Result.andThen_ok]
       rfl
      ·cases ok
       ·exact her.val
       ·exact .tuple _ _ (.cons her.val (.cons (.bool _) .nil))
     ·cases h
    ·rename_i hfi
     obtain⟨h1,h2⟩:=vC (P:=P) (w:=w) hd hrel hk2 hfi
     injection h with h
     subst h
     refine⟨if ok then .tuple #[zero,.bool false]else zero,?_,?_⟩
     ·simp only[Sem.run_bind]
      rw[hrel.isEmpty,hkk,hk3]
      simp only[Result.andThen_ok]
      rw[h1]
      simp only[Option.bind_none,Result.andThen_ok,Sem.run_bind,EF.1]
      rfl
     ·have hg:=VR.rO R EF.2
      cases ok
      ·exact hg
      ·exact .tuple _ _ (.cons hg (.cons (.bool _) .nil))
    ·cases h
   simp only[execOp]
   unfold Instr.lookup
   rcases hent with⟨_,h2,rfl⟩|⟨r,cl,es',_,h2,_,_,h5,h6⟩
   ·obtain⟨v',h1,h3⟩:=hfin #[] .nil
    refine⟨v',?_,h3⟩
    simp only[Sem.run_bind,aJ hu,Result.andThen_ok,h2,pure_bind]at h1 ⊢
    exact(congrArg (fun r:Result Value=>r.andThen fun a w'=>(pure (Next.value a):Sem Next).run P w') h1).trans rfl
   ·obtain⟨v',h1,h3⟩:=hfin es' h6
    refine⟨v',?_,h3⟩
    simp only[Sem.run_bind,aJ hu,Result.andThen_ok,h2,jD P h5,pure_bind]at h1 ⊢
    exact(congrArg (fun r:Result Value=>r.andThen fun a w'=>(pure (Next.value a):Sem Next).run P w') h1).trans rfl
  ·cases h
 ·cases h
end
end
section
section
variable {P:Program} {n:Nat} {R:Ren} {H:aa} {w:World} {T:Env} {a:Act}
theorem TZ {s f:Field}{m:Nat}(hs:bq P f.type=some m)(hm:m≠0)(b o:Nat)(w:World):(fieldPlace ⟨b,o,none⟩ f).run P w = .ok ⟨b,o+f.offset,none⟩ w:=by
 have _:=s
 simp only[fieldPlace,Sem.run_bind,dN hs,Result.andThen_ok]
 rw[if_neg hm]
 simp[add_lit]
theorem MS {t:TypeId}{off:Nat}{cs cs':Array Value}{v:Value}(ha:qH P t=some false)(hr:fE R cs.toList cs'.toList)(h:cs.toList[off]? =some v)(w:World):
 ∃v',(part t cs' off).run P w = .ok v' w∧VR R v v':=by
 obtain⟨v',h1,h2⟩:=hr.get off v h
 refine⟨v',?_,h2⟩
 have h1':cs'[off]? =some v':=by simpa using h1
 simp[part,EB ha,h1']
theorem MU {t:TypeId}{off m:Nat}{cs cs':Array Value}(ha:qH P t=some true)(hs:bq P t=some m)(hr:fE R cs.toList cs'.toList)(w:World):
 ∃v',(part t cs' off).run P w = .ok v' w∧VR R (.agg ((cs.toList.drop off).take m).toArray) v':=by
 refine⟨.agg (cs'.extract off (off+m)),?_,?_⟩
 ·simp[part,EB ha,dN hs]
 ·refine .agg _ _ ?_
  have:=(hr.drop off).take m
  rw[Array.toList_extract]
  simpa[List.extract_eq_take_drop,Nat.add_sub_cancel_left]using this
theorem T9 {α:Type}{xs:Array α}{x:α}(h:xs.toList=[x]):xs = #[x]:=by cases xs;simp_all
theorem PS {α:Type}{xs:Array α}{x y:α}(h:xs.toList=[x,y]):xs = #[x,y]:=by cases xs;simp_all
theorem KO {dst:Option Tmp}{b:Builtin}{args:Array Operand}{tys:Array TypeId}{ty:TypeId}{pos:String}{after:Array Edge}{g:Option (Nat×Bool)}{io:bZ}{v:Value}
 (hS:jC R H w) (hT:kY n R T a.tmps) (hok:uw (Op.call ⟨.builtin b,args,tys⟩).operands.toList=true)
 (hc:jv P (.call ⟨.builtin b,args,tys⟩) ty b tys.toList args.toList=some io) (hk:io.kind = .rd) (h:bL P T H io=some v):
 ∃v',(execOp a.eval ⟨dst,.call ⟨.builtin b,args,tys⟩,ty,pos,after,g⟩).run P w = .ok (.value v') w∧VR R v v':=by
 have raw:io = .raw (.call ⟨.builtin b,args,tys⟩) ty→∃v',(execOp a.eval ⟨dst,.call ⟨.builtin b,args,tys⟩,ty,pos,after,g⟩).run P w = .ok (.value v') w∧VR R v v':=by
  intro he
  subst he
  exact Kk (o:=⟨dst,.call ⟨.builtin b,args,tys⟩,ty,pos,after,g⟩) hT (by intro _ _;simp) hok h w
 have run (x:Sem Value) (v':Value) (hb: ∀cs,builtin b tys ty cs (args.map a.eval)=(do pure (.value (←x)))) (hx:x.run P w = .ok v' w):
  (execOp a.eval ⟨dst,.call ⟨.builtin b,args,tys⟩,ty,pos,after,g⟩).run P w = .ok (.value v') w:=by
  show(builtin b tys ty _ (args.map a.eval)).run P w=_
  rw[hb]
  simp[hx]
 unfold jv at hc
 split at hc
 ·rename_i t x hty hxs
  have hty':=T9 hty
  have KP:=T9 hxs
  subst hty';subst KP
  have hrx:=bz hT (aL hok (x:=x) (by simp[Op.operands,Call.operands]))
  split at hc
  ·rename_i e hu
   injection hc with hc;subst hc
   simp only[bL]at h
   split at h
   ·rename_i ad ln cp he
    rw[he]at hrx
    injection h with h;subst h
    obtain⟨x',c',hv⟩:=hrx.Ay
    refine⟨_,run _ _ (fun cs=>rfl) ?_,.int _ _⟩
    simp[Builtin.len_,aJ hu,hv,goInt]
   ·cases h
  ·rename_i kt e hu
   injection hc with hc;subst hc
   simp only[bL]at h
   split at h
   ·rename_i he
    rw[he]at hrx
    injection h with h;subst h
    have hv:a.eval x = .map none:=by cases hq:a.eval x <;> rw[hq]at hrx <;> cases hrx;rfl
    refine⟨_,run _ _ (fun cs=>rfl) ?_,.int _ _⟩
    simp[Builtin.len_,aJ hu,hv,goInt]
   ·rename_i r he
    rw[he]at hrx
    split at h
    ·rename_i es cl hg
     injection h with h;subst h
     have hv:a.eval x = .map (some (R.blk r))∧R.dom r:=by
      cases hq:a.eval x <;> rw[hq]at hrx <;> cases hrx
      exact⟨rfl,by assumption⟩
     have ho:=hS.obj r hv.2
     rw[hg]at ho
     obtain⟨es',hw,hrel⟩:=ho
     have hln:=hrel.length
     refine⟨.int .i64 es.length,run _ _ (fun cs=>rfl) ?_,.int _ _⟩
     simp[Builtin.len_,aJ hu,hv.1,goInt,jD P hw,hln]
    ·cases h
   ·cases h
  ·rename_i k e hu
   injection hc with hc;subst hc
   simp only[bL,ev,Option.some.injEq]at h;subst h
   refine⟨_,run _ _ (fun cs=>rfl) ?_,.int _ _⟩
   simp[Builtin.len_,aJ hu,goInt]
  ·rename_i ar hu
   split at hc
   ·rename_i k e hu'
    injection hc with hc;subst hc
    simp only[bL,ev,Option.some.injEq]at h;subst h
    refine⟨_,run _ _ (fun cs=>rfl) ?_,.int _ _⟩
    simp[Builtin.len_,aJ hu,aJ hu',goInt]
   ·cases hc
  ·injection hc with hc;exact raw hc.symm
 ·rename_i t x hty hxs
  have hty':=T9 hty
  have KP:=T9 hxs
  subst hty';subst KP
  have hrx:=bz hT (aL hok (x:=x) (by simp[Op.operands,Call.operands]))
  split at hc
  ·rename_i e hu
   injection hc with hc;subst hc
   simp only[bL]at h
   split at h
   ·rename_i ad ln cp he
    rw[he]at hrx
    split at h
    ·rename_i Aw
     injection h with h;subst h
     have hv: ∃x',a.eval x = .slice x' ln cp:=by
      cases hq:a.eval x <;> rw[hq]at hrx <;> cases hrx <;> first|exact⟨_,rfl⟩|(exfalso;unfold dY at Aw;omega)
     obtain⟨x',hv⟩:=hv
     refine⟨_,run _ _ (fun cs=>rfl) ?_,.int _ _⟩
     simp[Builtin.cap_,aJ hu,hv,goInt]
    ·cases h
   ·cases h
  ·cases hc
 ·split at hc
  ·split at hc
   ·split at hc
    ·injection hc with hc;subst hc;cases hk
    ·cases hc
   ·split at hc
    ·injection hc with hc;subst hc;cases hk
    ·cases hc
   ·split at hc
    ·injection hc with hc;subst hc;cases hk
    ·cases hc
   ·cases hc
  ·cases hc
 ·split at hc
  ·rename_i e _ _ _
   cases hq:bq P e with
   |none=>simp[hq]at hc
   |some s=>simp[hq]at hc;subst hc;cases hk
  ·cases hc
 ·split at hc
  ·rename_i e _
   cases hq:fU P e with
   |none=>simp[hq]at hc
   |some s=>
    simp only[hq,Option.bind_some]at hc
    split at hc
    ·injection hc with hc;subst hc;cases hk
    ·cases hc
  ·cases hc
 ·split at hc
  ·injection hc with hc;subst hc;cases hk
  ·cases hc
 all_goals first|(injection hc with hc;exact raw hc.symm)|cases hc
theorem Vw {o:Oper}{io:bZ}{v:Value}(hS:jC R H w)(hT:kY n R T a.tmps)(hc:lW P o=some io)(hk:io.kind = .rd)(h:bL P T H io=some v):
 ∃v',(execOp a.eval o).run P w = .ok (.value v') w∧VR R v v':=by
 unfold lW at hc
 split at hc
 ·cases hc
 rename_i hok
 have hok:uw o.op.operands.toList=true:=by cases hq:uw o.op.operands.toList with|true=>rfl|false=>exact absurd hq hok
 obtain⟨dst,op,ty,pos,after,g⟩:=o
 simp only at hc hok
 have raw:(∀cs b,op ≠ .select cs b)→io = .raw op ty→∃v',(execOp a.eval ⟨dst,op,ty,pos,after,g⟩).run P w = .ok (.value v') w∧VR R v v':=by
  intro hs he
  subst he
  exact Kk (o:=⟨dst,op,ty,pos,after,g⟩) hT hs hok h w
 cases op with
 |select cs b=>simp at hc
 |move x=>
  simp at hc;subst hc
  simp only[bL,Option.some.injEq]at h;subst h
  exact⟨_,rfl,bz hT (aL hok (by simp[Op.operands]))⟩
 |assign x=>
  simp at hc;subst hc
  simp only[bL,Option.some.injEq]at h;subst h
  exact⟨_,rfl,bz hT (aL hok (by simp[Op.operands]))⟩
 |pick c x y=>
  simp at hc;subst hc
  have hrc:=bz hT (aL hok (x:=c) (by simp[Op.operands]))
  have hrx:=bz hT (aL hok (x:=x) (by simp[Op.operands]))
  have hry:=bz hT (aL hok (x:=y) (by simp[Op.operands]))
  simp only[bL]at h
  cases he:ev T c <;> rw[he]at h hrc <;> simp at h
  rename_i b
  have hb:=hrc.KJ
  subst h
  refine⟨if b then a.eval x else a.eval y,?_,?_⟩
  ·simp only[execOp,hb,asBool];rfl
  ·cases b <;> assumption
 |alloc t=>cases hz:fU P t <;> simp[hz]at hc;subst hc;cases hk
 |box t x=>simp at hc;subst hc;cases hk
 |build t parts=>
  simp only[]at hc
  split at hc
  ·rename_i z fs hz hu
   cases hp:nR P fs.toList with
   |none=>simp[hp]at hc
   |some pl=>
    cases hq:fq (pl[·]?) parts.toList with
    |none=>simp[hp,hq]at hc
    |some ps=>
     simp[hp,hq]at hc
     subst hc
     simp only[bL]at h
     cases hf:bu z.cells.toList (ps.map fun p=>(p.1,ev T p.2))with
     |none=>rw[hf]at h;simp at h
     |some l=>
      rw[hf]at h
      simp only[Option.map_some,Option.some.injEq]at h
      subst h
      have EF:=jU hz w
      have hpl: ∀(fl:List Field) (pl:List (Nat×Nat)),nR P fl=some pl→(fl.mapM fun f=>do pure (f.offset,←sizeOf f.type):Sem (List (Nat×Nat))).run P w = .ok pl w:=by
       intro fl
       induction fl with
       |nil=>intro pl hpl;simp only[nR,Option.some.injEq]at hpl;subst hpl;rfl
       |cons f fl ih=>
        intro pl hpl
        simp only[nR,bind,Option.bind,pure]at hpl
        cases hsf:bq P f.type with
        |none=>simp[hsf]at hpl
        |some s=>
         cases hrr:nR P fl with
         |none=>simp[hsf,hrr]at hpl
         |some r=>
          simp[hsf,hrr]at hpl
          subst hpl
          simp only[List.mapM_cons,Sem.run_bind,dN hsf,Result.andThen_ok,Sem.run_pure,ih r hrr]
      obtain⟨l',h1,h2⟩:=EE hT parts.toList ps z.cells.toList l z.cells (place:=fun i=>pl.toArray[i]?) (by simpa using hq)
       (fun x hx=>aL hok (by simp only[Op.operands];exact List.mem_map.2 ⟨x,hx,rfl⟩)) (VR.rO R EF.2).cells hf
      refine⟨.agg l',?_,.agg _ _ (by simpa using h2)⟩
      simp only[execOp,Instr.build,Sem.run_bind,EF.1,Result.andThen_ok,aJ hu]
      have hm:=hpl fs.toList pl hp
      have hm':(fs.mapM fun f=>do pure (f.offset,←sizeOf f.type):Sem (Array (Nat×Nat))).run P w = .ok pl.toArray w:=by
       rw[Array.mapM_eq_mapM_toList]
       simp only[Sem.run_map,hm,Result.andThen_ok]
      rw[hm']
      simp only[Result.andThen_ok]
      have h1':Instr.fill (fun x=>pl.toArray[x]?) z.cells (parts.map fun(p:Nat×Operand)=>(p.1,a.eval p.2)).toList=some l':=by
       rw[Array.toList_map];exact h1
      rw[h1']
      rfl
  ·rename_i z k e hz hu
   cases hsz:bq P e with
   |none=>simp[hsz]at hc
   |some s=>
    cases hq:fq (fun i=>some (i*s,s)) parts.toList with
    |none=>simp[hsz,hq]at hc
    |some ps=>
     simp[hsz,hq]at hc
     subst hc
     simp only[bL]at h
     cases hf:bu z.cells.toList (ps.map fun p=>(p.1,ev T p.2))with
     |none=>rw[hf]at h;simp at h
     |some l=>
      rw[hf]at h
      simp only[Option.map_some,Option.some.injEq]at h
      subst h
      have EF:=jU hz w
      obtain⟨l',h1,h2⟩:=EE hT parts.toList ps z.cells.toList l z.cells (place:=fun i=>some (i*s,s)) hq
       (fun x hx=>aL hok (by simp only[Op.operands];exact List.mem_map.2 ⟨x,hx,rfl⟩)) (VR.rO R EF.2).cells hf
      refine⟨.agg l',?_,.agg _ _ (by simpa using h2)⟩
      simp only[execOp,Instr.build,Sem.run_bind,EF.1,Result.andThen_ok,aJ hu,dN hsz]
      have h1':Instr.fill (fun i=>some (i*s,s)) z.cells (parts.map fun(p:Nat×Operand)=>(p.1,a.eval p.2)).toList=some l':=by
       rw[Array.toList_map];exact h1
      rw[h1']
      rfl
  ·cases hc
 |buildSlice t len parts=>
  simp only[]at hc
  split at hc
  ·split at hc
   ·split at hc
    ·rename_i e hu _ _ s z hs hz hcond
     cases hq:fq (fun i=>some (i*s,s)) parts.toList with
     |none=>simp[hq]at hc
     |some ps=>simp[hq]at hc;subst hc;cases hk
    ·cases hc
   ·cases hc
  ·cases hc
 |insert t m k x=>simp only[]at hc;split at hc <;> simp at hc;subst hc;cases hk
 |load t x=>
  simp only[]at hc
  have hrx:=bz hT (aL hok (x:=x) (by simp[Op.operands]))
  split at hc
  ·rename_i m hag hsz
   simp at hc;subst hc
   simp only[bL]at h
   split at h
   ·rename_i b o he
    rw[he]at hrx
    obtain⟨hx,hb⟩:=hrx.qc
    cases hl:H.aP b o m with
    |none=>rw[hl]at h;simp at h
    |some l=>
     rw[hl]at h
     simp only[Option.map_some,Option.some.injEq]at h
     subst h
     obtain⟨arr,e,fr,hw,hle,hv⟩:=hS.aP hb hl
     refine⟨_,?_,.agg _ _ (by simpa using hv)⟩
     simp only[execOp,Instr.loadAt,hx,Instr.sureAddr,pure_bind,Sem.run_bind]
     rw[EC hag hsz hw hle]
     rfl
   ·cases h
  ·rename_i m hag hsz
   simp at hc;subst hc
   simp only[bL]at h
   split at h
   ·rename_i b o he
    rw[he]at hrx
    obtain⟨hx,hb⟩:=hrx.qc
    obtain⟨arr,e,fr,v',hw,hv,hr⟩:=hS.ah hb h
    refine⟨v',?_,hr⟩
    simp only[execOp,Instr.loadAt,hx,Instr.sureAddr,pure_bind,Sem.run_bind]
    rw[ED hag hw hv]
    rfl
   ·cases h
  ·cases hc
 |store t x y=>simp only[]at hc;cases hsz:bq P t <;> simp[hsz]at hc;subst hc;cases hk
 |nilCheck x=>
  simp at hc;subst hc
  have hrx:=bz hT (aL hok (x:=x) (by simp[Op.operands]))
  simp only[bL]at h
  split at h
  ·rename_i ad he
   rw[he]at hrx
   injection h with h;subst h
   obtain⟨y,hy⟩:=hrx.Vu
   refine⟨.pointer (some y),?_,hy▸hrx⟩
   simp only[execOp,hy];rfl
  ·rename_i t u he
   rw[he]at hrx
   injection h with h;subst h
   obtain⟨u',hu,hr⟩:=hrx.MQ
   refine⟨.iface t u',?_,.iface _ _ _ hr⟩
   simp only[execOp,hu];rfl
  ·rename_i f b c he
   rw[he]at hrx
   injection h with h;subst h
   obtain⟨b',c',hu,h1,h2⟩:=hrx.PO
   refine⟨.func (.func f) b' c',?_,.func _ _ _ _ _ h1 h2⟩
   simp only[execOp,hu];rfl
  ·cases h
 |binOp Vx t x y yt=>
  simp only[]at hc
  cases Vx <;> simp only[Option.some.injEq]at hc <;> subst hc <;> first
   |exact raw (by intro _ _;simp) rfl
   |exact Vv (.inl ⟨rfl,rfl⟩) hT hok h w
   |exact Vv (.inr ⟨rfl,rfl⟩) hT hok h w
 |convert s d x=>
  simp only[]at hc
  have hrx:=bz hT (aL hok (x:=x) (by simp[Op.operands]))
  split at hc
  ·split at hc
   ·simp at hc;subst hc;cases hk
   ·cases hc
  ·rename_i e ZR hud
   split at hc
   ·rename_i hue
    simp at hc;subst hc
    simp only[bL]at h
    split at h
    ·rename_i ln cp he
     rw[he]at hrx
     injection h with h;subst h
     obtain⟨hv,_,_⟩:=hrx.Az
     refine⟨.string .empty,?_,.string _⟩
     simp only[execOp,convert,Sem.run_bind,aJ ZR,aJ hud,Result.andThen_ok,hv,aJ hue]
     rfl
    ·rename_i b o ln cp he
     rw[he]at hrx
     cases hl:H.aP b o ln with
     |none=>rw[hl]at h;simp at h
     |some l=>
      cases hb:pJ l with
      |none=>rw[hl]at h;simp[hb]at h
      |some l8=>
       rw[hl]at h
       simp only[Option.bind_some,hb,Option.map_some,Option.some.injEq]at h
       subst h
       obtain⟨hd,_,hcase⟩:=hrx.iM
       obtain⟨arr,e',fr,hw,hle,hv⟩:=hS.aP hd hl
       refine⟨.string ⟨l8.toArray⟩,?_,.string _⟩
       have hall: ∃(ad:Addr) (cs:Array Value) (c':Nat),a.eval x = .slice (some ad) ln c'∧(loadCells ad ln).run P w = .ok cs w∧pJ cs.toList=some l8:=by
        rcases hcase with⟨c',hv'⟩|⟨hl0,a',hv'⟩
        ·exact⟨_,_,c',hv',run_loadCells P hw hle,by simpa using KN hv hb⟩
        ·subst hl0
         refine⟨a',#[],0,hv',rfl,?_⟩
         have:l=[]:=by have:=hv.length;simpa using this
         subst this
         exact hb
       obtain⟨ad,cs,c',h1,h2,h3⟩:=hall
       simp only[execOp,convert,Sem.run_bind,aJ ZR,aJ hud,Result.andThen_ok,h1,aJ hue,Conv.bytesToString]
       rw[h2]
       simp only[Result.andThen_ok]
       have h4:=MR P w cs.toList l8 .empty h3
       rw[←Array.forIn_toList]
       have h5:(⟨ByteArray.empty.data++l8.toArray⟩:ByteArray)=⟨l8.toArray⟩:=by simp
       rw[h5]at h4
       exact(congrArg (fun r:Result ByteArray=>(r.andThen fun s w'=>(pure (Value.string s):Sem Value).run P w').andThen fun a w'=>(pure (Next.value a):Sem Next).run P w') h4).trans rfl
    ·cases h
   ·cases hc
  ·injection hc with hc;exact raw (by intro _ _;simp) hc.symm
 |makeInterface t x=>
  simp only[]at hc
  have hrx:=bz hT (aL hok (x:=x) (by simp[Op.operands]))
  split at hc
  ·cases hc
  ·rename_i d hni hu
   simp at hc;subst hc
   simp only[bL,Option.some.injEq]at h;subst h
   refine⟨.iface t (a.eval x),?_,.iface _ _ _ hrx⟩
   simp only[execOp,Instr.makeInterface,Sem.run_bind,aJ hu,Result.andThen_ok]
   rfl
  ·cases hc
 |makeFunc fn first captured=>
  cases fn with
  |func f=>
   simp at hc;subst hc
   simp only[bL,Option.some.injEq]at h;subst h
   refine⟨.func (.func f) (first.map a.eval) (captured.map a.eval),rfl,.func _ _ _ _ _ ?_ ?_⟩
   ·rw[Array.toList_map]
    simpa using fE.map first.toList fun x hx=>bz hT (aL hok (x:=x) (by simp only[Op.operands];simpa using .inl (by simpa using hx)))
   ·rw[Array.toList_map]
    simpa using fE.map captured.toList fun x hx=>bz hT (aL hok (x:=x) (by simp only[Op.operands];simpa using .inr (by simpa using hx)))
  |_=>simp only[Option.some.injEq]at hc;exact raw (by intro _ _;simp) hc.symm
 |makeMap t r=>
  cases r with
  |none=>simp at hc;subst hc;cases hk
  |some r=>simp only[Option.some.injEq]at hc;exact raw (by intro _ _;simp) hc.symm
 |makeSlice t l c=>
  simp only[]at hc
  split at hc
  ·split at hc
   ·split at hc
    ·injection hc with hc;subst hc;cases hk
    ·cases hc
   ·cases hc
  ·cases hc
 |slice t x lo hi mx=>
  simp only[]at hc
  have hox:okO x=true:=aL hok (x:=x) (by simp[Op.operands])
  have hrx:=bz hT hox
  have hlo: ∀y,lo=some y→okO y=true:=fun y hy=>aL hok (by subst hy;simp[Op.operands])
  have hhi: ∀y,hi=some y→okO y=true:=fun y hy=>aL hok (by subst hy;simp[Op.operands])
  have hmx: ∀y,mx=some y→okO y=true:=fun y hy=>aL hok (by subst hy;simp[Op.operands])
  split at hc
  ·rename_i e hu
   cases hsz:bq P e with
   |none=>simp[hsz]at hc
   |some s=>
    simp only[hsz,Option.bind_some]at hc
    split at hc
    ·rename_i hs0
     injection hc with hc;subst hc
     simp only[bL]at h
     split at h
     ·rename_i ad len cap he
      rw[he]at hrx
      split at h
      ·rename_i l hh m hb
       have hlh:l≤hh∧hh≤m.getD hh:=by
        unfold eU at hb
        split at hb
        ·split at hb
         ·rename_i hq
          simp only[Option.some.injEq,Prod.mk.injEq]at hb
          obtain⟨rfl,rfl,rfl⟩:=hb
          exact hq
         ·cases hb
        ·cases hb
       obtain⟨x',c',hv,h1,h2,h3⟩:=KM hS hrx hlh.1 (fun q hq=>by have:=hlh.2;rw[hq]at this;simpa using this) h
       obtain⟨h4,_,_⟩:=KL (P:=P) (w:=w) (isS:=true) hT hlo hhi hmx hb h1 h2
       refine⟨_,?_,h3⟩
       simp only[execOp,Instr.sliceAt,Sem.run_bind,aJ hu,Result.andThen_ok,Instr.slice,hv]
       rw[h4]
       simp only[Result.andThen_ok,dN hsz]
       rfl
      ·cases h
     ·cases h
    ·cases hc
  ·rename_i k e hu
   cases hsz:bq P e with
   |none=>simp[hsz]at hc
   |some s=>
    simp only[hsz,Option.bind_some]at hc
    split at hc
    ·rename_i hs0
     injection hc with hc;subst hc
     simp only[bL]at h
     split at h
     ·rename_i b o he
      rw[he]at hrx
      obtain⟨hx,hd⟩:=hrx.qc
      split at h
      ·rename_i l hh m hb
       split at h
       ·rename_i hku
        have hlh:l≤hh∧hh≤m.getD hh:=by
         unfold eU at hb
         split at hb
         ·split at hb
          ·rename_i hq
           simp only[Option.some.injEq,Prod.mk.injEq]at hb
           obtain⟨rfl,rfl,rfl⟩:=hb
           exact hq
          ·cases hb
         ·cases hb
        obtain⟨x',c',hv,h1,h2,h3⟩:=KM hS (VR.fP b o k k hd hku) hlh.1 (fun q hq=>by have:=hlh.2;rw[hq]at this;simpa using this) h
        injection hv with hv1 hv2 hv3
        subst hv1;subst hv3
        obtain⟨h4,_,_⟩:=KL (P:=P) (w:=w) (isS:=false) hT hlo hhi hmx hb h1 h2
        refine⟨_,?_,h3⟩
        simp only[execOp,Instr.sliceAt,Sem.run_bind,aJ hu,Result.andThen_ok,hx,Instr.sureAddr,pure_bind]
        rw[h4]
        simp only[Result.andThen_ok,dN hsz]
        by_cases hz:m.getD k=l
        ·simp only[hz,if_true];rfl
        ·simp only[if_neg hz];rfl
       ·cases h
      ·cases h
     ·cases h
    ·cases hc
  ·injection hc with hc;exact raw (by intro _ _;simp) hc.symm
  ·cases hc
 |fieldAddr t x i=>
  simp only[]at hc
  have hrx:=bz hT (aL hok (x:=x) (by simp[Op.operands]))
  split at hc
  ·rename_i fs hu
   split at hc
   ·rename_i f hf
    cases hsz:bq P f.type with
    |none=>simp[hsz]at hc
    |some s=>
     simp only[hsz,Option.bind_some]at hc
     split at hc
     ·cases hc
     ·rename_i hs0
      injection hc with hc;subst hc
      simp only[bL]at h
      split at h
      ·rename_i b o he
       rw[he]at hrx
       injection h with h;subst h
       obtain⟨hx,hd⟩:=hrx.qc
       refine⟨_,?_,by have:=VR.ptr (R:=R) b (o+f.offset) hd;exact this⟩
       have hf':fs[i]? =some f:=by simpa using hf
       simp only[execOp,Instr.fieldAt,Sem.run_bind,aJ hu,Result.andThen_ok,hf',hx,Instr.sureAddr,pure_bind]
       rw[TZ (s:=f) hsz hs0]
       simp[Nat.add_assoc]
      ·cases h
   ·cases hc
  ·cases hc
 |field t x i=>
  simp only[]at hc
  have hrx:=bz hT (aL hok (x:=x) (by simp[Op.operands]))
  split at hc
  ·rename_i fs hu
   split at hc
   ·rename_i f hf
    have hf':fs[i]? =some f:=by simpa using hf
    split at hc
    ·rename_i m hag hsz
     simp at hc;subst hc
     simp only[bL]at h
     split at h
     ·rename_i cs he
      rw[he]at hrx
      obtain⟨cs',hx,hrs⟩:=hrx.Kl
      split at h
      ·rename_i hle
       injection h with h;subst h
       obtain⟨v',h1,h2⟩:=MU (P:=P) (off:=f.offset) hag hsz hrs w
       refine⟨v',?_,h2⟩
       simp only[execOp,Instr.field,Sem.run_bind,aJ hu,Result.andThen_ok,hf',hx,asAgg,pure_bind,h1]
       rfl
      ·cases h
     ·cases h
    ·rename_i m hag hsz
     simp at hc;subst hc
     simp only[bL]at h
     split at h
     ·rename_i cs he
      rw[he]at hrx
      obtain⟨cs',hx,hrs⟩:=hrx.Kl
      obtain⟨v',h1,h2⟩:=MS hag hrs h w
      refine⟨v',?_,h2⟩
      simp only[execOp,Instr.field,Sem.run_bind,aJ hu,Result.andThen_ok,hf',hx,asAgg,pure_bind,h1]
      rfl
     ·cases h
    ·cases hc
   ·cases hc
  ·cases hc
 |indexAddr t x i=>
  simp only[]at hc
  have hrx:=bz hT (aL hok (x:=x) (by simp[Op.operands]))
  have XO:=bz hT (aL hok (x:=i) (by simp[Op.operands]))
  split at hc
  ·rename_i e hu
   cases hsz:bq P e with
   |none=>simp[hsz]at hc
   |some s=>
    simp only[hsz,Option.map_some,Option.some.injEq]at hc
    subst hc
    simp only[bL]at h
    split at h
    ·rename_i b o len cap k j he hj
     rw[he]at hrx
     rw[hj]at XO
     have hi:=XO.qY
     split at h
     ·rename_i hcond
      injection h with h;subst h
      obtain⟨hd,_,hcase⟩:=hrx.iM
      rcases hcase with⟨c',hv⟩|⟨hl0,a',hv⟩
      ·refine⟨_,?_,by have:=VR.ptr (R:=R) b (o+j.toNat*s) hd;exact this⟩
       simp only[execOp,Instr.indexAt,hi,asIntOf,pure_bind,Sem.run_bind,aJ hu,Result.andThen_ok,hv]
       rw[if_pos hcond]
       simp only[Sem.run_bind,dN hsz,Result.andThen_ok,add_lit,Sem.run_pure]
       rw[Nat.add_assoc]
      ·exfalso;omega
     ·cases h
    ·cases h
  ·rename_i k e hu
   split at hc
   ·rename_i hk1
    cases hsz:bq P e with
    |none=>simp[hsz]at hc
    |some s=>
     simp only[hsz,Option.map_some,Option.some.injEq]at hc
     subst hc
     simp only[bL]at h
     split at h
     ·rename_i b o k' j he hj
      rw[he]at hrx
      rw[hj]at XO
      have hi:=XO.qY
      split at h
      ·rename_i hcond
       injection h with h;subst h
       obtain⟨hx,hd⟩:=hrx.qc
       refine⟨_,?_,by have:=VR.ptr (R:=R) b (o+j.toNat*s) hd;exact this⟩
       simp only[execOp,Instr.indexAt,hi,asIntOf,pure_bind,Sem.run_bind,aJ hu,Result.andThen_ok,hx,Instr.sureAddr]
       rw[if_pos hcond]
       simp only[Sem.run_bind,dN hsz,Result.andThen_ok,add_lit,Sem.run_pure]
       rw[Nat.add_assoc]
      ·cases h
     ·cases h
   ·cases hc
  ·cases hc
 |index t x i=>
  simp only[]at hc
  have hrx:=bz hT (aL hok (x:=x) (by simp[Op.operands]))
  have XO:=bz hT (aL hok (x:=i) (by simp[Op.operands]))
  split at hc
  ·injection hc with hc;exact raw (by intro _ _;simp) hc.symm
  ·rename_i k e hu
   split at hc
   ·rename_i s hag hsz
    simp at hc;subst hc
    simp only[bL]at h
    split at h
    ·rename_i cs k' j he hj
     rw[he]at hrx
     rw[hj]at XO
     have hi:=XO.qY
     split at h
     ·rename_i hcond
      injection h with h;subst h
      obtain⟨cs',hx,hrs⟩:=hrx.Kl
      obtain⟨v',h1,h2⟩:=MU (P:=P) (off:=j.toNat*s) hag hsz hrs w
      refine⟨v',?_,h2⟩
      simp only[execOp,Instr.index,hi,asIntOf,pure_bind,Sem.run_bind,aJ hu,Result.andThen_ok,hx]
      rw[if_pos ⟨hcond.1,hcond.2.1⟩]
      simp only[Sem.run_bind,dN hsz,Result.andThen_ok,h1]
      rfl
     ·cases h
    ·cases h
   ·rename_i hag hsz
    simp at hc;subst hc
    simp only[bL]at h
    split at h
    ·rename_i cs k' j he hj
     rw[he]at hrx
     rw[hj]at XO
     have hi:=XO.qY
     split at h
     ·rename_i hcond
      obtain⟨cs',hx,hrs⟩:=hrx.Kl
      obtain⟨v',h1,h2⟩:=MS (P:=P) (off:=j.toNat) hag hrs h w
      refine⟨v',?_,h2⟩
      simp only[execOp,Instr.index,hi,asIntOf,pure_bind,Sem.run_bind,aJ hu,Result.andThen_ok,hx]
      rw[if_pos hcond]
      simp only[Sem.run_bind,dN hsz,Result.andThen_ok,Nat.mul_one,h1]
      rfl
     ·cases h
    ·cases h
   ·cases hc
  ·cases hc
 |lookup t m k ok=>
  simp only[]at hc
  split at hc
  ·rename_i kt e hu
   cases hz:fU P e with
   |none=>simp[hz]at hc
   |some z=>
    simp only[hz,Option.map_some,Option.some.injEq]at hc
    subst hc
    exact RJ hS hT hu hz (aL hok (by simp[Op.operands])) (aL hok (by simp[Op.operands])) h
  ·cases hc
 |mapUpdate t m k x=>simp only[]at hc;split at hc <;> simp at hc;subst hc;cases hk
 |typeAssert x xt t ok=>
  simp only[]at hc
  have hrx:=bz hT (aL hok (x:=x) (by simp[Op.operands]))
  split at hc
  ·cases hc
  ·rename_i d hni hu
   cases hz:fU P t with
   |none=>simp[hz]at hc
   |some z=>
    simp only[hz,Option.map_some,Option.some.injEq]at hc
    subst hc
    have EF:=jU hz w
    have hzg:=VR.rO R EF.2
    simp only[bL]at h
    split at h
    ·rename_i t' u he
     rw[he]at hrx
     obtain⟨u',hx,hru⟩:=hrx.MQ
     split at h
     ·rename_i ht
      subst ht
      injection h with h;subst h
      refine⟨if ok then .tuple #[u',.bool true]else u',?_,?_⟩
      ·simp only[execOp,Instr.typeAssert,Sem.run_bind,aJ hu,Result.andThen_ok,hx]
       cases d <;> first|exact absurd rfl (hni _)|simp
      ·cases ok
       ·exact hru
       ·exact .tuple _ _ (.cons hru (.cons (.bool _) .nil))
     ·rename_i ht
      split at h
      ·rename_i hk1
       injection h with h;subst h
       refine⟨.tuple #[z,.bool false],?_,.tuple _ _ (.cons hzg (.cons (.bool _) .nil))⟩
       simp only[execOp,Instr.typeAssert,Sem.run_bind,aJ hu,Result.andThen_ok,hx]
       cases d <;> first|exact absurd rfl (hni _)|simp[hk1,EF.1,ht]
      ·cases h
    ·rename_i he
     rw[he]at hrx
     have hx:a.eval x = .nilIface:=by cases hq:a.eval x <;> rw[hq]at hrx <;> cases hrx
     split at h
     ·rename_i hk1
      injection h with h;subst h
      refine⟨.tuple #[z,.bool false],?_,.tuple _ _ (.cons hzg (.cons (.bool _) .nil))⟩
      simp only[execOp,Instr.typeAssert,Sem.run_bind,aJ hu,Result.andThen_ok,hx]
      cases d <;> first|exact absurd rfl (hni _)|simp[hk1,EF.1]
     ·cases h
    ·cases h
  ·cases hc
 |extract x i=>
  simp at hc;subst hc
  have hrx:=bz hT (aL hok (x:=x) (by simp[Op.operands]))
  simp only[bL]at h
  split at h
  ·rename_i vs he
   rw[he]at hrx
   obtain⟨vs',hx,hrs⟩:=hrx.TW
   obtain⟨v',h1,h2⟩:=hrs.get i v h
   have h1':vs'[i]? =some v':=by simpa using h1
   refine⟨v',?_,h2⟩
   simp only[execOp,Instr.extract,hx,h1']
   rfl
  ·cases h
 |call c=>
  simp only[]at hc
  split at hc
  ·injection hc with hc;subst hc;cases hk
  ·injection hc with hc;subst hc;cases hk
  ·rename_i b hcb
   obtain⟨callee,args,tys⟩:=c
   simp only at hcb
   subst hcb
   exact KO hS hT hok hc hk h
  ·cases hc
 |range t x=>
  simp only[]at hc
  split at hc
  ·injection hc with hc;subst hc;cases hk
  ·cases hc
 |next x s=>
  cases s with
  |true=>simp only[]at hc;cases hc
  |false=>simp only[]at hc;injection hc with hc;subst hc;cases hk
 |entry x=>simp only[Option.some.injEq]at hc;subst hc;cases hk
 |_=>simp only[Option.some.injEq]at hc;exact raw (by intro _ _;simp) hc.symm
end
end
section
theorem wW.move {R R':Ren}{o:Option fK}{b:Nat}{w w':World}(h:wW R o b w)(hl:R.le R')(hb:R.dom b)(hw: ∀x,w.heap[R.blk b]? =some x→w'.heap[R.blk b]? =some x):wW R' o b w':=by
 unfold wW at h ⊢
 split at h
 ·obtain⟨h1,h2,arr,t,fr,h3,h4,h5,h6⟩:=h
  rw[hl.len b hb,hl.base b hb,hl.size b hb,hl.blk b hb]
  exact⟨h1,h2,arr,t,fr,hw _ h3,h4,h5.mono hl,h6⟩
 ·obtain⟨es',h1,h2⟩:=h
  rw[hl.blk b hb]
  exact⟨es',hw _ h1,h2.mono hl⟩
 ·obtain⟨h0,m',h1,h2⟩:=h
  rw[hl.blk b hb,hl.base b hb]
  exact⟨h0,m',hw _ h1,h2.mono hl⟩
 ·trivial
 ·exact h
def Ren.add (R:Ren)(r blk size len:Nat):Ren where
 dom b:=R.dom b∨b=r
 blk b:=if b=r then blk else R.blk b
 base b:=if b=r then 0 else R.base b
 size b:=if b=r then size else R.size b
 len b:=if b=r then len else R.len b
theorem Ren.KQ {R:Ren}{r blk size len:Nat}(h: ¬ R.dom r):R.le (R.add r blk size len):=by
 have hne: ∀b,R.dom b→b≠r:=fun b hb e=>h (e▸hb)
 refine⟨fun b hb=>.inl hb,fun b hb=> ?_,fun b hb=> ?_,fun b hb=> ?_,fun b hb=> ?_⟩ <;> simp[Ren.add,hne b hb]
structure Ua (w w':World):Prop where
 size:w'.heap.size=w.heap.size+1
 old: ∀k,k<w.heap.size→w'.heap[k]? =w.heap[k]?
 os:w'.os=w.os
 tape:w'.tape=w.tape
 output:w'.output=w.output
def Vy (R':Ren)(o:fK)(r:Nat)(x:Obj):Prop:=
 match o,x with
 | .cells cs false,.cells arr _ fr=>R'.len r=cs.length∧R'.base r=0∧R'.size r=arr.size∧cs.length≤arr.size∧fE R' cs (arr.toList.take cs.length)∧(∀j,j≤arr.size→¬ (fr.1≤j∧j<fr.2))
 | .map es clock,.map es' clock'=>clock'=clock∧dz R' es es'.toList
 | .iter m since seen last,.mapIter m' since' seen' last'=>R'.base r=0∧since'=since∧seen'=seen.toArray∧last'=last∧MP R' m m'
 |_,_=>False
theorem Km {R:Ren}{H:aa}{w w':World}{r size len:Nat}{o:fK}{x:Obj}(hS:jC R H w)(hr:r<H.next)(hn: ¬ R.dom r)(hg:H.get r=some o)
 (hw:Ua w w') (hx:w'.heap[w.heap.size]? =some x) (hb:Vy (R.add r w.heap.size size len) o r x):jC (R.add r w.heap.size size len) H w':=by
 have hle:R.le (R.add r w.heap.size size len):=Ren.KQ hn
 refine⟨?_,?_,?_,hS.wf⟩
 ·intro b hb
  rcases hb with hb|rfl
  ·exact hS.lt b hb
  ·exact hr
 ·intro b hb'
  by_cases hbr:b=r
  ·subst hbr
   rw[hg]
   unfold Vy at hb
   have e1:(R.add b w.heap.size size len).blk b=w.heap.size:=by simp[Ren.add]
   split at hb
   ·rename_i cs arr t fr
    obtain⟨h1,h2,h3,h4,h5,h6⟩:=hb
    refine⟨h1.symm,by rw[h2,h3];omega,arr,t,fr,by rw[e1];exact hx,h3.symm,by rw[h2];simpa using h5,fun _ j _ hj=>h6 j (by rw[h3]at hj;exact hj)⟩
   ·obtain⟨h1,h2⟩:=hb
    exact⟨_,by rw[e1,hx,h1],h2⟩
   ·obtain⟨h0,rfl,rfl,rfl,h4⟩:=hb
    exact⟨h0,_,by rw[e1,hx],h4⟩
   ·exact hb.elim
  ·have hbd:R.dom b:=hb'.resolve_right hbr
   have ho:=hS.obj b hbd
   cases hgb:H.get b with
   |none=>rw[hgb]at ho;exact ho.elim
   |some ob=>
    by_cases hd:ob = .dead
    ·subst hd;trivial
    ·rw[←hgb]
     refine ho.move hle hbd fun y hy=> ?_
     rw[hw.old _ (Array.getElem?_eq_some_iff.1 hy).1]
     exact hy
 ·intro b c hb' hc' hlb hlc hor he
  have key: ∀d,R.dom d→live H d→d≠r→(R.add r w.heap.size size len).blk d<w.heap.size:=fun d hd hl hne=>by
   have:=hS.qae hd hl
   simpa[Ren.add,hne]using this
  have e1:(R.add r w.heap.size size len).blk r=w.heap.size:=by simp[Ren.add]
  by_cases hbr:b=r
  ·by_cases hcr:c=r
   ·rw[hbr,hcr]
   ·have:=key c (hc'.resolve_right hcr) hlc hcr
    rw[hbr,e1]at he;omega
  ·by_cases hcr:c=r
   ·have:=key b (hb'.resolve_right hbr) hlb hbr
    rw[hcr,e1]at he;omega
   ·have h1:=hb'.resolve_right hbr
    have h2:=hc'.resolve_right hcr
    refine hS.inj b c h1 h2 hlb hlc hor ?_
    simpa[Ren.add,hbr,hcr]using he
theorem fE.NW {R:Ren}: ∀(l:List Value),(∀x ∈ l,VR R x x)→fE R l l
 |[],_=>.nil
 |x::l,h=>.cons (h x (by simp)) (fE.NW l fun y hy=>h y (by simp[hy]))
theorem NY {z:Value}(h:qX z=true)(i:Nat):wT (z.cells[i]!)=true:=by
 have hall: ∀x ∈ z.cells,wT x=true:=by
  unfold qX at h
  split at h
  ·intro x hx
   exact List.all_eq_true.1 h x (Array.mem_toList_iff.2 hx)
  ·rename_i hn
   intro x hx
   have:z.cells = #[z]:=by cases z <;> first|rfl|exact absurd rfl (hn _)
   rw[this]at hx
   simp only[List.mem_toArray,List.mem_singleton]at hx
   subst hx;exact h
 by_cases hi:i<z.cells.size
 ·rw[getElem!_pos z.cells i hi]
  exact hall _ (Array.getElem_mem hi)
 ·rw[getElem!_neg z.cells i hi]
  rfl
theorem za (R:Ren){z:Value}(h:qX z=true)(m:Nat):fE R ((Array.range m).map (z.cells[· % z.cells.size]!)).toList ((Array.range m).map (z.cells[· % z.cells.size]!)).toList:=by
 refine fE.NW _ fun x hx=> ?_
 rw[Array.toList_map]at hx
 obtain⟨i,_,rfl⟩:=List.mem_map.1 hx
 exact VR.pM R (NY h _)
theorem wX (w:World)(x:Obj)(d:Nat):Ua w {w with heap:=w.heap.push x,drawn:=d}:=
 ⟨by simp,fun k hk=>by simp[Array.getElem?_push_lt,hk],rfl,rfl,rfl⟩
section
variable {P:Program} {n:Nat} {R:Ren} {H:aa} {w:World} {T:Env} {a:Act}
theorem RO {r:Nat}{cs:List Value}{arr:Array Value}{t:TypeId}(hS:jC R H w)(hr:r<H.next)(hn: ¬ R.dom r)(hg:H.get r=some (.cells cs false))(hv:fE R cs arr.toList):
 jC (R.add r w.heap.size arr.size cs.length) H {w with heap:=w.heap.push (.cells arr t)}∧R.le (R.add r w.heap.size arr.size cs.length)∧Ua w {w with heap:=w.heap.push (.cells arr t)}:=by
 have hlen:cs.length=arr.size:=by have:=hv.length;simpa using this
 have hle:R.le (R.add r w.heap.size arr.size cs.length):=Ren.KQ hn
 refine⟨Km hS hr hn hg (wX w _ _) (x:=.cells arr t) (by simp) ?_,hle,wX w _ _⟩
 refine⟨by simp[Ren.add],by simp[Ren.add],by simp[Ren.add],by omega,?_,fun j _=>by simp⟩
 rw[List.take_of_length_le (by simp;omega)]
 exact hv.mono hle
structure Made (P:Program)(R:Ren)(H:aa)(w:World)(s:Sem Next)(r:Nat)(y:Value)(v':Value)(w':World)(R':Ren):Prop where
 run:s.run P w = .ok (.value v') w'
 Eu:jC R' H w'
 val:VR R' y v'
 le:R.le R'
 dom: ∀b,R'.dom b↔(R.dom b∨b=r)
 blk:R'.blk r=w.heap.size
 one:Ua w w'
theorem Vz {o:Oper}{io:bZ}{obj:fK}{mk:Nat→Value}{r:Nat}(hS:jC R H w)(hT:kY n R T a.tmps)(hc:lW P o=some io)(h:jq T io=some (obj,mk))
 (hr:r<H.next) (hn: ¬ R.dom r) (hg:H.get r=some obj): ∃v' w' R',Made P R H w (execOp a.eval o) r (mk r) v' w' R':=by
 unfold lW at hc
 split at hc
 ·cases hc
 rename_i hok
 have hok:uw o.op.operands.toList=true:=by cases hq:uw o.op.operands.toList with|true=>rfl|false=>exact absurd hq hok
 obtain⟨dst,op,ty,pos,after,g⟩:=o
 simp only at hc hok
 have fin: ∀(cs:List Value) (arr:Array Value) (t:TypeId) (f:Nat→Value) (f':Nat→Value),H.get r=some (.cells cs false)→fE R cs arr.toList →
  ((execOp a.eval ⟨dst,op,ty,pos,after,g⟩).run P w = .ok (.value (f' w.heap.size)) {w with heap:=w.heap.push (.cells arr t)}) →
  (VR (R.add r w.heap.size arr.size cs.length) (f r) (f' w.heap.size))→∃v' w' R',Made P R H w (execOp a.eval ⟨dst,op,ty,pos,after,g⟩) r (f r) v' w' R':=by
  intro cs arr t f f' hg' hv hrun hval
  obtain⟨h1,h2,h3⟩:=RO (t:=t) hS hr hn hg' hv
  exact⟨_,_,_,⟨hrun,h1,hval,h2,fun b=>Iff.rfl,by simp[Ren.add],h3⟩⟩
 have ptr: ∀size len,VR (R.add r w.heap.size size len) (.pointer (some ⟨r,0,none⟩)) (.pointer (some ⟨w.heap.size,0,none⟩)):=fun size len=>by
  have:=VR.ptr (R:=R.add r w.heap.size size len) r 0 (.inr rfl)
  simpa[Ren.add]using this
 have slc: ∀size len l c,c<dY→VR (R.add r w.heap.size size len) (.slice (some ⟨r,0,none⟩) l c) (.slice (some ⟨w.heap.size,0,none⟩) l c):=fun size len l c Aw=>by
  have:=VR.fP (R:=R.add r w.heap.size size len) r 0 l c (.inr rfl) Aw
  simpa[Ren.add]using this
 cases op with
 |alloc t=>
  cases hz:fU P t with
  |none=>simp[hz]at hc
  |some z=>
   simp only[hz,Option.map_some,Option.some.injEq]at hc
   subst hc
   simp only[jq,Option.some.injEq,Prod.mk.injEq]at h
   obtain⟨rfl,rfl⟩:=h
   have EF:=jU hz w
   refine fin _ z.cells t (fun r=>.pointer (some ⟨r,0,none⟩)) (fun r=>.pointer (some ⟨r,0,none⟩)) hg (VR.rO R EF.2).cells ?_ (ptr _ _)
   simp only[execOp,Instr.alloc,Sem.run_bind,EF.1,Result.andThen_ok]
   rfl
 |box t x=>
  simp at hc;subst hc
  simp only[jq,Option.some.injEq,Prod.mk.injEq]at h
  obtain⟨rfl,rfl⟩:=h
  exact fin _ (a.eval x).cells t (fun r=>.pointer (some ⟨r,0,none⟩)) (fun r=>.pointer (some ⟨r,0,none⟩)) hg (bz hT (aL hok (by simp[Op.operands]))).cells rfl (ptr _ _)
 |buildSlice t len parts=>
  simp only[]at hc
  split at hc
  ·split at hc
   ·split at hc
    ·rename_i e hu _ _ s z hs hz hcond
     cases hq:fq (fun i=>some (i*s,s)) parts.toList with
     |none=>simp[hq]at hc
     |some ps=>
      simp only[hq,Option.map_some,Option.some.injEq]at hc
      subst hc
      simp only[jq]at h
      cases hf:bu ((Array.range (len*s)).map (z.cells[· % z.cells.size]!)).toList (ps.map fun p=>(p.1,ev T p.2))with
      |none=>rw[hf]at h;simp at h
      |some l=>
       rw[hf]at h
       simp only[Option.map_some,Option.some.injEq,Prod.mk.injEq]at h
       obtain⟨rfl,rfl⟩:=h
       have EF:=jU hz w
       obtain⟨l',h1,h2⟩:=EE hT parts.toList ps _ l ((Array.range (len*s)).map (z.cells[· % z.cells.size]!)) (place:=fun i=>some (i*s,s)) hq
        (fun x hx=>aL hok (by simp only[Op.operands];exact List.mem_map.2 ⟨x,hx,rfl⟩)) (za R EF.2 _) hf
       refine fin l l' e (fun r=>.slice (some ⟨r,0,none⟩) len len) (fun r=>.slice (some ⟨r,0,none⟩) len len) hg h2 ?_ (slc _ _ _ _ (by have:=hcond.2.2;unfold dY;omega))
       simp only[execOp,Instr.buildSlice,Sem.run_bind,aJ hu,Result.andThen_ok,dN hs]
       have h1':Instr.fill (fun i=>some (i*s,s)) ((Array.range (len*s)).map (z.cells[· % z.cells.size]!)) (parts.map fun(p:Nat×Operand)=>(p.1,a.eval p.2)).toList=some l':=by
        rw[Array.toList_map];exact h1
       rw[if_neg (by omega)]
       by_cases h0:len*s=0
       ·simp only[h0,if_true,pure_bind]at h1' ⊢
        have e0: ∀(z':Array Value),(Array.range 0).map (z'[· % z'.size]!) = #[]:=fun _=>by simp
        rw[e0]at h1' ⊢
        rw[h1']
        rfl
       ·rw[if_neg h0]
        simp only[bind_assoc,pure_bind,Sem.run_bind,EF.1,Result.andThen_ok]
        rw[h1']
        rfl
    ·cases hc
   ·cases hc
  ·cases hc
 |convert sT d x=>
  simp only[]at hc
  split at hc
  ·rename_i e ZR hud
   split at hc
   ·rename_i hue hse
    injection hc with hc;subst hc
    have hrx:=bz hT (aL hok (x:=x) (by simp[Op.operands]))
    simp[jq]at h
   ·cases hc
  ·split at hc
   ·injection hc with hc;subst hc;cases h
   ·cases hc
  ·injection hc with hc;subst hc;cases h
 |makeMap t q=>
  cases q with
  |none=>
   simp at hc;subst hc
   simp only[jq,Option.some.injEq,Prod.mk.injEq]at h
   obtain⟨rfl,rfl⟩:=h
   have hle:R.le (R.add r w.heap.size 0 0):=Ren.KQ hn
   refine⟨.map (some w.heap.size),{w with heap:=w.heap.push (.map #[] 0)},R.add r w.heap.size 0 0,⟨rfl,?_,?_,hle,fun b=>Iff.rfl,by simp[Ren.add],wX w _ _⟩⟩
   ·exact Km hS hr hn hg (wX w _ _) (x:=.map #[] 0) (by simp) ⟨rfl,.nil⟩
   ·have:=VR.map (R:=R.add r w.heap.size 0 0) r (.inr rfl)
    simpa[Ren.add]using this
  |some q=>simp only[Option.some.injEq]at hc;subst hc;cases h
 |makeSlice t lo co=>
  simp only[]at hc
  split at hc
  ·rename_i e hu
   split at hc
   ·rename_i s b z hs hbt hz
    split at hc
    ·rename_i hcond
     injection hc with hc;subst hc
     have hrl:=bz hT (aL hok (x:=lo) (by simp[Op.operands]))
     have hrc:=bz hT (aL hok (x:=co) (by simp[Op.operands]))
     simp only[jq]at h
     split at h
     ·rename_i k1 l k2 c he1 he2
      rw[he1]at hrl
      rw[he2]at hrc
      split at h
      ·rename_i hq
       simp only[Option.some.injEq,Prod.mk.injEq]at h
       obtain⟨rfl,rfl⟩:=h
       have EF:=jU hz w
       have hzl:z.cells.toList.length=s:=by simpa using hcond.2
       refine fin _ ((Array.range (c.toNat*s)).map (z.cells[· % z.cells.size]!)) e (fun r=>.slice (some ⟨r,0,none⟩) l.toNat c.toNat) (fun r=>.slice (some ⟨r,0,none⟩) l.toNat c.toNat) hg ?_ ?_ (slc _ _ _ _ (by unfold dY;omega))
       ·rw[hzl];exact za R EF.2 _
       ·obtain⟨i,hi,hib⟩: ∃i,P.info? e=some i∧i.bytes=b:=by
         unfold y7 at hbt
         cases hi:P.info? e with
         |none=>simp[hi]at hbt
         |some i=>simp[hi]at hbt;exact⟨i,rfl,hbt⟩
        have hwl:IntKind.i64.wrap l=l:=by simp[IntKind.wrap,IntKind.bits,IntKind.signed];omega
        have hwc:IntKind.i64.wrap c=c:=by simp[IntKind.wrap,IntKind.bits,IntKind.signed];omega
        simp only[execOp,Instr.makeSlice,Sem.run_bind,aJ hu,Result.andThen_ok,hrl.qY,hrc.qY,asInt,asIntOf,pure_bind,run_typeInfo hi,hib,hwl,hwc]
        have hcb:(b:Int)*c=c*b:=Int.mul_comm _ _
        rw[if_neg (by simp;omega)]
        simp only[Sem.run_bind,run_askRoom,Result.andThen_ok,dN hs,pure_bind,Sem.run_pure]
        by_cases h0:c.toNat*s=0
        ·simp only[h0,if_true,pure_bind]
         have e0: ∀(z':Array Value),(Array.range 0).map (z'[· % z'.size]!) = #[]:=fun _=>by simp
         rw[e0,e0]
         rfl
        ·rw[if_neg h0]
         simp only[bind_assoc,pure_bind,Sem.run_bind,EF.1,Result.andThen_ok]
         rfl
      ·cases h
     ·cases h
    ·cases hc
   ·cases hc
  ·cases hc
 |select cs b=>simp at hc
 |move x=>simp at hc;subst hc;cases h
 |assign x=>simp at hc;subst hc;cases h
 |pick c x y=>simp at hc;subst hc;cases h
 |build t parts=>
  simp only[]at hc
  split at hc
  ·rename_i z fs hz hu
   cases hp:nR P fs.toList with
   |none=>simp[hp]at hc
   |some pl=>
    cases hq:fq (pl[·]?) parts.toList with
    |none=>simp[hp,hq]at hc
    |some ps=>simp[hp,hq]at hc;subst hc;cases h
  ·rename_i z k e hz hu
   cases hsz:bq P e with
   |none=>simp[hsz]at hc
   |some s=>
    cases hq:fq (fun i=>some (i*s,s)) parts.toList with
    |none=>simp[hsz,hq]at hc
    |some ps=>simp[hsz,hq]at hc;subst hc;cases h
  ·cases hc
 |insert t m k x=>simp only[]at hc;split at hc <;> simp at hc;subst hc;cases h
 |mapUpdate t m k x=>simp only[]at hc;split at hc <;> simp at hc;subst hc;cases h
 |load t x=>simp only[]at hc;split at hc <;> simp at hc <;> subst hc <;> cases h
 |store t x y=>simp only[]at hc;cases hsz:bq P t <;> simp[hsz]at hc;subst hc;cases h
 |nilCheck x=>simp at hc;subst hc;cases h
 |binOp Vx t x y yt=>
  simp only[]at hc
  cases Vx <;> simp only[Option.some.injEq]at hc <;> subst hc <;> first
   |cases h
   |(unfold wU at h;split at h <;> (try split at h) <;> cases h)
 |makeInterface t x=>simp only[]at hc;split at hc <;> simp at hc;subst hc;cases h
 |makeFunc fn first captured=>cases fn <;> simp at hc <;> subst hc <;> cases h
 |slice t x lo hi mx=>
  simp only[]at hc
  split at hc
  ·rename_i e hu
   cases hsz:bq P e with
   |none=>simp[hsz]at hc
   |some s=>simp only[hsz,Option.bind_some]at hc;split at hc <;> simp at hc;subst hc;cases h
  ·rename_i k e hu
   cases hsz:bq P e with
   |none=>simp[hsz]at hc
   |some s=>simp only[hsz,Option.bind_some]at hc;split at hc <;> simp at hc;subst hc;cases h
  ·simp at hc;subst hc;cases h
  ·cases hc
 |fieldAddr t x i=>
  simp only[]at hc
  split at hc
  ·split at hc
   ·rename_i f hf
    cases hsz:bq P f.type with
    |none=>simp[hsz]at hc
    |some s=>simp only[hsz,Option.bind_some]at hc;split at hc <;> simp at hc;subst hc;cases h
   ·cases hc
  ·cases hc
 |field t x i=>
  simp only[]at hc
  split at hc
  ·split at hc
   ·split at hc <;> simp at hc <;> subst hc <;> cases h
   ·cases hc
  ·cases hc
 |indexAddr t x i=>
  simp only[]at hc
  split at hc
  ·rename_i e hu;cases hsz:bq P e <;> simp[hsz]at hc;subst hc;cases h
  ·rename_i k e hu
   split at hc
   ·cases hsz:bq P e <;> simp[hsz]at hc;subst hc;cases h
   ·cases hc
  ·cases hc
 |index t x i=>
  simp only[]at hc
  split at hc
  ·simp at hc;subst hc;cases h
  ·split at hc <;> simp at hc <;> subst hc <;> cases h
  ·cases hc
 |lookup t m k ok=>
  simp only[]at hc
  split at hc
  ·rename_i kt e hu;cases hz:fU P e <;> simp[hz]at hc;subst hc;cases h
  ·cases hc
 |typeAssert x xt t ok=>
  simp only[]at hc
  split at hc
  ·cases hc
  ·cases hz:fU P t <;> simp[hz]at hc;subst hc;cases h
  ·cases hc
 |extract x i=>simp at hc;subst hc;cases h
 |call c=>
  simp only[]at hc
  split at hc
  ·injection hc with hc;subst hc;cases h
  ·injection hc with hc;subst hc;cases h
  ·exfalso
   unfold jv at hc
   split at hc
   ·split at hc <;> first|(injection hc with hc;subst hc;cases h)|(split at hc <;> first|(injection hc with hc;subst hc;cases h)|cases hc)
   ·split at hc <;> first|(injection hc with hc;subst hc;cases h)|cases hc
   ·split at hc
    ·split at hc <;> first|(injection hc with hc;subst hc;cases h)|(split at hc <;> first|(injection hc with hc;subst hc;cases h)|cases hc)|cases hc
    ·cases hc
   ·split at hc
    ·rename_i e _ _ _;cases hq:bq P e <;> simp[hq]at hc;subst hc;cases h
    ·cases hc
   ·split at hc
    ·rename_i e _
     cases hq:fU P e with
     |none=>simp[hq]at hc
     |some z=>simp only[hq,Option.bind_some]at hc;split at hc <;> simp at hc;subst hc;cases h
    ·cases hc
   ·split at hc <;> first|(injection hc with hc;subst hc;cases h)|cases hc
   all_goals first|(injection hc with hc;subst hc;cases h)|cases hc
  ·cases hc
 |range t x=>
  simp only[]at hc
  split at hc
  ·injection hc with hc;subst hc;cases h
  ·cases hc
 |next x s=>
  cases s with
  |true=>simp only[]at hc;cases hc
  |false=>simp only[]at hc;injection hc with hc;subst hc;cases h
 |entry x=>simp only[Option.some.injEq]at hc;subst hc;cases h
 |_=>simp at hc;subst hc;cases h
end
end
end Go.Proofs.YtpbbjfighohokaaGreatI
