/- The machine of closures: code, calls, a closed call. -/
import Derived.Test.YtofpmkhcbijilaaGreatDoorMachH
namespace Go.Proofs.YtofpmkhcbijilaaGreatDoorI
open Go
set_option linter.unusedSimpArgs false
set_option linter.unusedVariables false
section
section
variable {P:Program} {C:bu}
theorem FZ {call:fG}(hc:xD C call){o:aF}{e:Tr Value}{h:HT}{K:Tr Value→HT→Bool}(hk:(ks1 P o).run call e h K=true){Q:Env→aa→Prop}(hQ: ∀e' h',K e' h'=true→Q (toE e') h'.toI):
 match bV (toE e) o.guard with
 |true=>Dq P C (toE e) h.toI o.op fun v H'=>Q ((toE e).put o.dst v) H'
 |false=>Q ((toE e).put o.dst undef) h.toI:=by
 obtain⟨dst,op,guard⟩:=o
 have run:(vD P op).run call e h (fun v h=>(kd dst).put e v fun e=>K e h)=true→Dq P C (toE e) h.toI op fun v H'=>Q ((toE e).put dst v) H':=fun hk=>qef op C call hc e h _ hk _ fun v h' k=>by
  obtain⟨e',k1,k2⟩:=RL k
  rw[←k2];exact hQ _ _ k1
 have skip:(kd dst).put e undef (fun e=>K e h)=true→Q ((toE e).put dst undef) h.toI:=fun hk=>by
  obtain⟨e',k1,k2⟩:=RL hk
  rw[←k2];exact hQ _ _ k1
 cases guard with
 |none=>exact run hk
 |some gw=>
  obtain⟨g,want⟩:=gw
  have hk:(koT g).get e (Uk want (vD P op) (kd dst) call e h K)=true:=hk
  have hk:=FV hk
  unfold Uk at hk
  split at hk
  ·rename_i b hb
   have:bV (toE e) (some (g,want))=(b == want):=by simp only[bV,hb]
   simp only[this]
   cases b <;> cases want <;> first|exact run hk|exact skip hk
  ·rename_i hn
   have:bV (toE e) (some (g,want))=false:=by
    cases hv:toE e g <;> simp only[bV,hv]
    exact absurd hv (hn _)
   simp only[this]
   exact skip hk
theorem LA {call:fG}(hc:xD C call): ∀(l:List aF) {e:Tr Value} {h:HT} {K:Tr Value→HT→Bool},(qea P l).run call e h K=true→∀{Q:Env→aa→Prop},(∀e' h',K e' h'=true→Q (toE e') h'.toI)→fu P C l Q (toE e) h.toI
 |[],e,h,K,hk,Q,hQ=>hQ _ _ hk
 |o::os,e,h,K,hk,Q,hQ=>by
  have hk:(ks1 P o).run call e h (fun e h=>(qea P os).run call e h K)=true:=hk
  simp only[fu]
  exact FZ hc hk fun e' h' k=>LA hc os k hQ
theorem xG {call:fG}(hc:xD C call): ∀(l:List (aF×List aF)) {e:Tr Value} {h:HT} {K:Tr Value→HT→Bool},(Vq P l).run call e h K=true→∀{Q:Env→aa→Prop},(∀e' h',K e' h'=true→Q (toE e') h'.toI)→bP P C l Q (toE e) h.toI
 |[],e,h,K,hk,Q,hQ=>hQ _ _ hk
 |(o,st)::os,e,h,K,hk,Q,hQ=>by
  have hk:(ks1 P o).run call e h (fun e h=>qal P st e h ((Vq P os).run call e h K))=true:=hk
  simp only[bP]
  cases st with
  |nil=>exact FZ hc hk fun e' h' k=>xG hc os k hQ
  |cons p r=>
   have key:=FZ (Q:=fun T H=>dh P T H (p::r)∧bP P C os Q T H) hc hk fun e' h' k=>by
    have k:((p::r).all (K7 P (toE e') h'.toI)&&(Vq P os).run call e' h' K)=true:=k
    rw[Bool.and_eq_true]at k
    exact⟨Hr k.1,xG hc os k.2 hQ⟩
   revert key
   cases bV (toE e) o.guard with
   |true=>exact id
   |false=>exact fun k=>k.2
theorem qcu (a:fP):kc P (.loop a)=⟨Vr (kc P a) qam⟩:=rfl
theorem qfq (f:fG→Tr Value→HT→(Exit→Tr Value→HT→Bool)→Bool):(KC.mk f).run=f:=rfl
theorem qaw {call:fG}(hc:xD C call): ∀(c:fP) {e:Tr Value} {h:HT} {K:Exit→Tr Value→HT→Bool},(kc P c).run call e h K=true→∀{Q:Exit→Env→aa→Prop},(∀x e' h',K x e' h'=true→Q x (toE e') h'.toI)→wz P C c Q (toE e) h.toI:=by
 intro c
 induction c with
 |skip=>intro e h K hk Q hQ;exact hQ _ _ _ hk
 |ops l=>intro e h K hk Q hQ;exact LA hc l hk fun e' h' k=>hQ _ _ _ k
 |draw l=>intro e h K hk Q hQ;exact xG hc l hk fun e' h' k=>hQ _ _ _ k
 |seq a b iha ihb=>
  intro e h K hk Q hQ
  refine iha hk fun x e' h' k=> ?_
  cases x with
  |normal=>exact ihb k hQ
  |_=>exact hQ _ _ _ k
 |cond c a b iha ihb=>
  intro e h K hk Q hQ
  have hk:=aO hk
  simp only[wz]
  split at hk
  ·rename_i t ht
   rw[ht]
   cases t with
   |true=>exact iha hk hQ
   |false=>exact ihb hk hQ
  ·cases hk
 |block id a iha=>
  intro e h K hk Q hQ
  refine iha hk fun x e' h' k=> ?_
  cases x with
  |exit id'=>
   simp only[wY]
   have k:(bif Nat.beq id' id then K .normal e' h' else K (.exit id') e' h')=true:=k
   cases hb:Nat.beq id' id with
   |true=>rw[hb]at k;rw[if_pos (Nat.eq_of_beq_eq_true hb)];exact hQ _ _ _ k
   |false=>
    rw[hb]at k
    rw[if_neg (fun e=>by rw[e]at hb;simp at hb)];exact hQ _ _ _ k
  |_=>exact hQ _ _ _ k
 |loop a iha=>
  intro e h K hk Q hQ X hX
  have key: ∀(n:Nat) (e:Tr Value) (h:HT),Vr (kc P a) n call e h K=true→X (toE e) h.toI:=by
   intro n
   induction n with
   |zero=>intro e h hk;cases hk
   |succ n ih=>
    intro e h hk
    have hk:(kc P a).run call e h (fun x e h=>match x with
     | .normal=>Vr (kc P a) n call e h K
     |x=>K x e h)=true:=hk
    refine hX _ _ (iha hk fun x e' h' k=> ?_)
    cases x with
    |normal=>exact ih _ _ k
    |_=>exact hQ _ _ _ k
  rw[qcu,qfq]at hk
  exact key qam e h hk
 |exit id=>intro e h K hk Q hQ;exact hQ _ _ _ hk
 |ret=>intro e h K hk Q hQ;exact hQ _ _ _ hk
theorem LB: ∀(l:List Value) (i:Nat) (e:Tr Value) (K:Tr Value→Bool),qan l i e K=true→∃e',K e'=true∧∀t,toE e' t=if i≤t∧t<i+l.length then l.getD (t-i) undef else toE e t
 |[],i,e,K,h=>⟨e,h,fun t=>by rw[if_neg (by simp)]⟩
 |v::l,i,e,K,h=>by
  have h:(kdS i).put e v (fun e=>bU (Nat.succ i) fun i=>qan l i e K)=true:=h
  obtain⟨e1,h1,h2⟩:=Ox h
  simp only[bR]at h1
  obtain⟨e2,h3,h4⟩:=LB l (i+1) e1 K h1
  refine⟨e2,h3,fun t=> ?_⟩
  rw[h4 t,h2]
  simp only[List.length_cons]
  by_cases c1:i+1≤t∧t<i+1+l.length
  ·rw[if_pos c1,if_pos (by omega)]
   rw[show t-i=(t-(i+1))+1 by omega]
   rfl
  ·rw[if_neg c1]
   unfold Env.put
   simp only
   by_cases c2:t=i
   ·subst c2;rw[if_pos rfl,if_pos (by omega)];simp
   ·rw[if_neg c2,if_neg (by omega)]
theorem qax {l:List Value}{K:Tr Value→Bool}(h:qan l 0 .lf K=true): ∃e',K e'=true∧toE e'=Dr l:=by
 obtain⟨e',h1,h2⟩:=LB l 0 .lf K h
 refine⟨e',h1,?_⟩
 funext t
 rw[h2 t]
 unfold Dr
 by_cases c:t<l.length
 ·rw[if_pos (by omega)];simp
 ·rw[if_neg (by omega)]
  have:l.getD t undef=undef:=by simp[List.getD,List.getElem?_eq_none (by omega:l.length≤t)]
  rw[this]
  simp[toE,Tr.get]
theorem LC: ∀(l:List wC) {e:Tr Value} {h:HT} {K:List Value→Bool},qcl l e h K=true→∃vs,di (toE e) h.toI l=some vs∧K vs=true
 |[],e,h,K,hk=>⟨[],rfl,hk⟩
 |r::l,e,h,K,hk=>by
  have hk:qao r e h (fun v=>qcl l e h fun l=>K (v::l))=true:=hk
  have: ∃v,dI (toE e) h.toI r=some v∧qcl l e h (fun l=>K (v::l))=true:=by
   unfold qao at hk
   split at hk
   ·exact⟨_,rfl,FV hk⟩
   ·split at hk
    ·rename_i v hv;rw[j5]at hk;exact⟨v,hv,hk⟩
    ·cases hk
  obtain⟨v,h1,h2⟩:=this
  obtain⟨vs,h3,h4⟩:=LC l h2
  exact⟨v::vs,by simp only[di,h1,h3,Option.map_some],h4⟩
theorem Uv {l:List wC}{e:Tr Value}{h:HT}{K:Value→HT→Bool}(hk:qcm l e h K=true): ∃v,gy (toE e) h.toI l=some v∧K v h=true:=by
 obtain⟨vs,h1,h2⟩:=LC l hk
 unfold gy
 rw[h1]
 match vs,h2 with
 |[v],h2=>exact⟨_,rfl,h2⟩
 |[],h2=>exact⟨_,rfl,h2⟩
 |_::_::_,h2=>exact⟨_,rfl,h2⟩
end
section
variable {P:Program} {IP:FuncId→Option ah} {X:bu} {WB:qcn}
def qcv (C:bu)(f:FuncId)(k:KF):Prop:=∀call,xD C call→∀args h K,k.run call args h K=true→∀K':Value→aa→Prop,(∀v h',K v h'=true→K' v h'.toI)→C f args h.toI K'
variable (hX:wW X X) (ho: ∀f r,WB f=some r→qcv (eH P IP X) f r)
include hX in
theorem qay {f:FuncId}{g:ah}(hg:IP f=some g):qcv (eH P IP X) f (kf P g):=by
 intro call hc args h K hk K' hK
 have hk:(bif Nat.ble (mr args) g.ntmps then qan args 0 .lf fun e=>(kc P g.body).run call e h fun x e h=>(match x with
  | .ret| .normal=>qcm g.results e h K
  |_=>false)else false)=true:=hk
 obtain⟨h1,hk⟩:=dJ hk
 have h1:=iW h1
 rw[fE]at h1
 obtain⟨e',h2,h3⟩:=qax hk
 refine eH.fold hX hg ⟨h1,?_⟩
 rw[←h3]
 refine qaw hc _ h2 fun x e' h' k=> ?_
 have fin:qcm g.results e' h' K=true→∃r,gy (toE e') h'.toI g.results=some r∧K' r h'.toI:=fun q=>by
  obtain⟨v,k1,k2⟩:=Uv q
  exact⟨v,k1,hK _ _ k2⟩
 cases x with
 |ret=>exact fin k
 |normal=>exact fin k
 |_=>cases k
include hX ho in
theorem HY: ∀n,xD (eH P IP X) (qap P IP WB n)
 |0=>fun f args h K hk=>by cases hk
 |n+1=>fun f args h K hk K' hK=>by
  have hk:(qec P IP WB f).run (qap P IP WB n) args h K=true:=hk
  have ih:=HY n
  unfold qec at hk
  split at hk
  ·rename_i r hr;exact ho f r hr _ ih _ _ _ hk _ hK
  ·split at hk
   ·rename_i g hg;exact qay hX hg _ ih _ _ _ hk _ hK
   ·cases hk
noncomputable def Vv (P:Program)(IP:FuncId→Option ah)(WB:qcn)(n:Nat)(f:FuncId)(v:Value):Bool:=qap P IP WB n f [] ⟨.lf,0⟩ fun u _=>Rv u v
include hX ho in
theorem Nt {n:Nat}{f:FuncId}{v:Value}(h:Vv P IP WB n f v=true):eH P IP X f [] AJ (fun r _=>r=v):=by
 have:=HY hX ho n f [] ⟨.lf,0⟩ _ h (fun r _=>r=v) fun u _ k=>K6 k
 have he:HT.toI ⟨.lf,0⟩=AJ:=aa.ext' (by funext j;exact Tr.vW j) rfl
 rw[he]at this
 exact this
end
end
end Go.Proofs.YtofpmkhcbijilaaGreatDoorI
