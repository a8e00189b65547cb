/- A block's id changes: what it holds is seen otherwise. -/
import Derived.Test.YtpbbjfighohokaaGreatIdealY
import Derived.Lib.Overlaps
namespace Go.Proofs.YtpbbjfighohokaaGreatI
open Go
set_option linter.unusedSimpArgs false
set_option linter.unusedVariables false
section
mutual
theorem XZ (R:Ren): ∀v':Value,∃v,VR R v v'
 | .bool b=>⟨_,.bool b⟩
 | .agg ⟨l⟩=>by
   obtain⟨l0,h⟩:=ER R l
   exact⟨.agg l0.toArray,.agg _ _ (by simpa using h)⟩
 | .tuple ⟨l⟩=>by
   obtain⟨l0,h⟩:=ER R l
   exact⟨.tuple l0.toArray,.tuple _ _ (by simpa using h)⟩
 | .int k n=>⟨_,.int k n⟩
 | .float k n=>⟨_,.float k n⟩
 | .complex k n m=>⟨_,.complex k n m⟩
 | .string s=>⟨_,.string s⟩
 | .pointer a=>⟨.chan none,.any _ rfl (fun _ h=>by cases h)⟩
 | .slice a n c=>⟨.chan none,.any _ rfl (fun _ h=>by cases h)⟩
 | .map r=>⟨.chan none,.any _ rfl (fun _ h=>by cases h)⟩
 | .chan r=>⟨.chan none,.any _ rfl (fun _ h=>by cases h)⟩
 | .func f a b=>⟨.chan none,.any _ rfl (fun _ h=>by cases h)⟩
 | .nilFunc=>⟨_,.nilFunc⟩
 | .iface t v=>⟨.chan none,.any _ rfl (fun _ h=>by cases h)⟩
 | .nilIface=>⟨_,.nilIface⟩
theorem ER (R:Ren): ∀l':List Value,∃l,fE R l l'
 |[]=>⟨[],.nil⟩
 |v::r=>by
  obtain⟨x,h1⟩:=XZ R v
  obtain⟨y,h2⟩:=ER R r
  exact⟨x::y,.cons h1 h2⟩
end
section
variable {P:Program} {R:Ren} {H:aa} {w:World}
theorem Qj {b off:Nat}{cs cs2:List Value}(hS:jC R H w)(hd:R.dom b)(hg:H.get b=some (.cells cs false))(hfit:R.base b+off+cs2.length≤R.size b)
 (hrel: ∀arr t fr,w.heap[R.blk b]? =some (.cells arr t fr)→fE R cs2 ((arr.toList.drop (R.base b+off)).take cs2.length)):
 R.le (R.bW H.next (R.blk b) (R.base b+off) (R.size b) cs2.length)∧jC (R.bW H.next (R.blk b) (R.base b+off) (R.size b) cs2.length) ((H.set b .dead).alloc (.cells cs2 false)) w ∧
   Ext R H w (R.bW H.next (R.blk b) (R.base b+off) (R.size b) cs2.length) ((H.set b .dead).alloc (.cells cs2 false)) w:=by
 have ho:=hS.obj b hd
 rw[hg]at ho
 obtain⟨g1,g2,arr,t,fr,g3,g4,g5,g6⟩:=ho
 have hrl:=hrel arr t fr g3
 have hnd: ¬ R.dom H.next:=fun h=>Nat.lt_irrefl _ (hS.lt _ h)
 have hle:R.le (R.bW H.next (R.blk b) (R.base b+off) (R.size b) cs2.length):=Ren.vD hnd
 have hlive:live H b:=by unfold live;rw[hg];trivial
 have hrw:bI H b:=by unfold bI;rw[hg];trivial
 have hblk:R.blk b<w.heap.size:=(Array.getElem?_eq_some_iff.1 g3).1
 have hne: ∀x,R.dom x→x≠H.next:=fun x hx e=>hnd (e▸hx)
 have hget: ∀x,((H.set b .dead).alloc (.cells cs2 false)).get x=if x=H.next then some (.cells cs2 false)else if x=b then some .dead else H.get x:=fun x=>rfl
 have hlv: ∀x,R.dom x→live ((H.set b .dead).alloc (.cells cs2 false)) x→live H x∧x≠b:=fun x hx hl=>by
  unfold live at hl ⊢
  rw[hget,if_neg (hne x hx)]at hl
  by_cases hb:x=b
  ·rw[if_pos hb]at hl;exact hl.elim
  ·rw[if_neg hb]at hl;exact⟨hl,hb⟩
 have PT: ∀x,R.dom x→bI ((H.set b .dead).alloc (.cells cs2 false)) x→bI H x:=fun x hx hl=>by
  unfold bI at hl ⊢
  rw[hget,if_neg (hne x hx)]at hl
  by_cases hb:x=b
  ·rw[if_pos hb]at hl;exact hl.elim
  ·rw[if_neg hb]at hl;exact hl
 have e0: ∀x,R.dom x→(R.bW H.next (R.blk b) (R.base b+off) (R.size b) cs2.length).blk x=R.blk x:=fun x hx=>hle.blk x hx
 have e1:(R.bW H.next (R.blk b) (R.base b+off) (R.size b) cs2.length).blk H.next=R.blk b:=by simp[Ren.bW]
 refine⟨hle,⟨?_,?_,?_,fun c hc=>by
  have hc':H.next+1≤c:=hc
  have:=hS.lt b hd
  rw[hget,if_neg (by omega),if_neg (by omega)];exact hS.wf c (by omega)⟩,⟨hle,Nat.le_succ _,?_,?_,?_,?_,?_,Nat.le_refl _,rfl,rfl,rfl⟩⟩
 ·intro x hx
  rcases hx with hx|rfl
  ·exact Nat.lt_succ_of_lt (hS.lt x hx)
  ·exact Nat.lt_succ_self _
 ·intro x hx
  rw[hget]
  by_cases RX:x=H.next
  ·subst RX
   rw[if_pos rfl]
   have hbx:(R.bW H.next (R.blk b) (R.base b+off) (R.size b) cs2.length).base H.next=R.base b+off:=by simp[Ren.bW]
   have hsx:(R.bW H.next (R.blk b) (R.base b+off) (R.size b) cs2.length).size H.next=R.size b:=by simp[Ren.bW]
   have hlx:(R.bW H.next (R.blk b) (R.base b+off) (R.size b) cs2.length).len H.next=cs2.length:=by simp[Ren.bW]
   refine⟨hlx.symm,by rw[hbx,hsx];exact hfit,arr,t,fr,by rw[e1];exact g3,by rw[hsx];exact g4,?_,fun _ j hj1 hj2=>g6 rfl j (by rw[hbx]at hj1;omega) (by rw[hsx]at hj2;exact hj2)⟩
   rw[hbx]
   exact hrl.mono hle
  ·rw[if_neg RX]
   have hxd:R.dom x:=hx.resolve_right RX
   by_cases hxb:x=b
   ·rw[if_pos hxb];trivial
   ·rw[if_neg hxb]
    have hox:=hS.obj x hxd
    cases hgx:H.get x with
    |none=>rw[hgx]at hox;exact hox.elim
    |some ob=>
     by_cases hdd:ob = .dead
     ·subst hdd;trivial
     ·rw[←hgx]
      exact hox.move hle hxd fun y hy=>hy
 ·intro x y hx hy hlx hly hor he
  by_cases RX:x=H.next
  ·by_cases hyn:y=H.next
   ·rw[RX,hyn]
   ·exfalso
    have Mq:=hy.resolve_right hyn
    obtain⟨h1,h2⟩:=hlv y Mq hly
    rw[RX,e1,e0 y Mq]at he
    exact h2 (hS.inj y b Mq hd h1 hlive (.inr hrw) he.symm)
  ·have hxd:=hx.resolve_right RX
   obtain⟨h1,h2⟩:=hlv x hxd hlx
   by_cases hyn:y=H.next
   ·exfalso
    rw[hyn,e1,e0 x hxd]at he
    exact h2 (hS.inj x b hxd hd h1 hlive (.inr hrw) he)
   ·have Mq:=hy.resolve_right hyn
    rw[e0 x hxd,e0 y Mq]at he
    exact hS.inj x y hxd Mq h1 (hlv y Mq hly).1 (hor.imp (PT x hxd) (PT y Mq)) he
 ·intro x hx
  rcases hx with hx|rfl
  ·exact .inl hx
  ·exact .inr (Nat.le_refl _)
 ·intro x hx hn
  rw[hget,if_neg (by omega),if_neg (fun e:x=b=>hn (e▸hd))]
 ·intro x cs' hgx hx
  rw[hget,if_neg (by omega)]
  by_cases hxb:x=b
  ·subst hxb;rw[hg]at hgx;cases hgx
  ·rw[if_neg hxb];exact hgx
 ·intro k _ hk
  rfl
 ·intro x hx hl
  rcases hx with hx|rfl
  ·refine .inr ⟨x,hx,?_,(e0 x hx).symm⟩
   unfold bI at hl ⊢
   rw[hget,if_neg (hne x hx)]at hl
   by_cases hxb:x=b
   ·rw[if_pos hxb]at hl;exact hl.elim
   ·rw[if_neg hxb]at hl;exact hl
  ·exact .inr ⟨b,hd,hrw,e1.symm⟩
def Lf (H:aa)(size:Nat)(s:Value)(K:Value→aa→Prop):Prop:=
 (s = .slice none 0 0∧K s H)∨∃b o len cs,s = .slice (some ⟨b,o,none⟩) len (dY+size)∧H.get b=some (.cells cs false) ∧
   ∀c vG,len≤c→c<dY→(c=0∨o+c*size≤(cs++vG).length)→K (.slice (some ⟨H.next,o,none⟩) len c) ((H.set b .dead).alloc (.cells (cs++vG) false))
def Hide (H:aa)(size:Nat)(r:Value)(K:Value→aa→Prop):Prop:=
 K r H∨∃b o len c cs,r = .slice (some ⟨b,o,none⟩) len c∧c<dY∧H.get b=some (.cells cs false)∧len≤c∧o+c*size≤cs.length ∧
   K (.slice (some ⟨H.next,0,none⟩) len (dY+size)) ((H.set b .dead).alloc (.cells ((cs.drop o).take (len*size)) false))
theorem Sc {size:Nat}{s s':Value}{K:Value→aa→Prop}(h1:1<size)(hS:jC R H w)(hv:VR R s s')(h:Lf H size s K):
 ∃R' H' t,R.le R'∧jC R' H' w∧Ext R H w R' H' w∧VR R' t s'∧K t H':=by
 rcases h with⟨rfl,hk⟩|⟨b,o,len,cs,rfl,hg,hk⟩
 ·exact⟨R,H,_,R.le_refl,hS,Ext.refl _ _ _,hv,hk⟩
 ·have hd:R.dom b:=(hv.iM).1
  have ho:=hS.obj b hd
  rw[hg]at ho
  obtain⟨g1,g2,arr,t,fr,g3,g4,g5,g6⟩:=ho
  obtain⟨vG,hj⟩:=ER R ((arr.toList.drop (R.base b)).drop cs.length)
  have hjl:=hj.length
  simp only[List.length_drop,Array.length_toList]at hjl
  have hall:fE R (cs++vG) (arr.toList.drop (R.base b)):=by
   have:=fE.append hj g5
   rwa[List.take_append_drop]at this
  have hcl:(cs++vG).length=R.size b-R.base b:=by
   rw[hall.length,List.length_drop,Array.length_toList,g4]
  obtain⟨k1,k2,k3⟩:=Qj (cs2:=cs++vG) (off:=0) hS hd hg (by omega) (fun Vt t' fr' h'=>by
   rw[g3]at h'
   injection h' with h'
   injection h' with e1 e2 e3
   subst e1
   rw[Nat.add_zero,List.take_of_length_le (by rw[hcl,List.length_drop,Array.length_toList,g4];exact Nat.le_refl _)]
   exact hall)
  have hd2:(R.bW H.next (R.blk b) (R.base b+0) (R.size b) (cs++vG).length).dom H.next:=.inr rfl
  have eb:(R.bW H.next (R.blk b) (R.base b+0) (R.size b) (cs++vG).length).blk H.next=R.blk b:=by simp[Ren.bW]
  have ea:(R.bW H.next (R.blk b) (R.base b+0) (R.size b) (cs++vG).length).base H.next=R.base b:=by simp[Ren.bW]
  obtain⟨cap,hcap⟩: ∃cap,cap=dY+size:=⟨_,rfl⟩
  rw[←hcap]at hv
  cases hv with
  |mO=>exfalso;unfold dY at hcap;omega
  |fP _ _ _ _ _ hcc=>exfalso;unfold dY at hcc hcap;omega
  |je _ _ _ c e _ he hlc Aw q1 q2=>
   obtain rfl:e=size:=by omega
   have qbg:c<dY:=Aw.resolve_left (by omega)
   refine⟨_,_,_,k1,k2,k3,?_,hk c vG hlc qbg (.inr (by omega))⟩
   have:=VR.fP H.next o len c hd2 qbg
   rw[eb,ea]at this
   exact this
  |kL _ _ e a _ he q1=>
   exact⟨_,_,_,k1,k2,k3,.mO _ _ _ hd2,hk 0 vG (Nat.le_refl _) (by unfold dY;omega) (.inl rfl)⟩
theorem We {size:Nat}{r r':Value}{K:Value→aa→Prop}(h0:0<size)(hS:jC R H w)(hv:VR R r r')(h:Hide H size r K):
 ∃R' H' t,R.le R'∧jC R' H' w∧Ext R H w R' H' w∧VR R' t r'∧K t H':=by
 rcases h with hk|⟨b,o,len,c,cs,rfl,Aw,hg,hlc,hfit,hk⟩
 ·exact⟨R,H,_,R.le_refl,hS,Ext.refl _ _ _,hv,hk⟩
 ·have hd:R.dom b:=(hv.iM).1
  have ho:=hS.obj b hd
  rw[hg]at ho
  obtain⟨g1,g2,arr,t,fr,g3,g4,g5,g6⟩:=ho
  have hmul:len*size≤c*size:=Nat.mul_le_mul_right _ hlc
  have hcl:((cs.drop o).take (len*size)).length=len*size:=by rw[List.length_take,List.length_drop];omega
  obtain⟨k1,k2,k3⟩:=Qj (cs2:=(cs.drop o).take (len*size)) (off:=o) hS hd hg (by rw[hcl];omega) (fun Vt t' fr' h'=>by
   rw[g3]at h'
   injection h' with h'
   injection h' with e1 e2 e3
   subst e1
   rw[hcl]
   have:=(g5.drop o).take (len*size)
   rw[List.drop_take,List.take_take,List.drop_drop,Nat.min_eq_left (by omega)]at this
   exact this)
  have hd2:(R.bW H.next (R.blk b) (R.base b+o) (R.size b) ((cs.drop o).take (len*size)).length).dom H.next:=.inr rfl
  have eb:(R.bW H.next (R.blk b) (R.base b+o) (R.size b) ((cs.drop o).take (len*size)).length).blk H.next=R.blk b:=by simp[Ren.bW]
  have ea:(R.bW H.next (R.blk b) (R.base b+o) (R.size b) ((cs.drop o).take (len*size)).length).base H.next=R.base b+o:=by simp[Ren.bW]
  have es:(R.bW H.next (R.blk b) (R.base b+o) (R.size b) ((cs.drop o).take (len*size)).length).size H.next=R.size b:=by simp[Ren.bW]
  have el:(R.bW H.next (R.blk b) (R.base b+o) (R.size b) ((cs.drop o).take (len*size)).length).len H.next=len*size:=by simp[Ren.bW,hcl]
  cases hv with
  |je _ _ _ _ e=>exfalso;unfold dY at Aw;omega
  |kL _ _ e=>exfalso;unfold dY at Aw;omega
  |fP _ _ _ _ _ hcc=>
   refine⟨_,_,_,k1,k2,k3,?_,hk⟩
   have:=VR.je (R:=R.bW H.next (R.blk b) (R.base b+o) (R.size b) ((cs.drop o).take (len*size)).length) H.next 0 len c size hd2 h0 hlc (.inr hcc) (by rw[el];omega) (by rw[ea,es];omega)
   rw[eb,ea,Nat.add_zero]at this
   exact this
  |mO _ _ a=>
   exact⟨_,_,_,k1,k2,k3,.kL _ _ _ _ hd2 h0 (by rw[el];omega),hk⟩
theorem Wh {f:FuncId}{g:aA}(h:pQ P f=some g):(∀(as:Array Value) w,(callFunc f as).run P w = .ok (.enter f as) w)∧∃fn,P.funcs[f]? =some fn∧fn.body.isNone=false:=by
 unfold pQ at h
 simp only[Option.map_eq_some_iff]at h
 obtain⟨g0,h,_⟩:=h
 unfold vg at h
 split at h
 case h_2=>cases h
 rename_i fn hfn
 split at h
 case h_2=>cases h
 rename_i c hc hname
 refine⟨fun as w=> ?_,fn,hfn,by rw[hc];rfl⟩
 have hname: ¬ fn.name = "runtime.NumGoroutine" :=by simpa using hname
 simp[callFunc,hfn,hname,hc]
def Oh (CC:bS)(g:FuncId)(size:Nat):bS:=fun f args H K=>f=g∧∃s r,args=s::r∧Lf H size s fun t H1=>CC g (t::r) H1 fun v H2=>Hide H2 size v K
theorem Sd {CC:bS}{g:FuncId}{code:aA}{size:Nat}(hC:vE P CC)(hg:pQ P g=some code)(h1:1<size):vE P (Oh CC g size):=by
 obtain⟨hen,fn,hfn,hbody⟩:=Wh hg
 rintro f args H K ⟨rfl,s,r,rfl,hrev⟩
 refine .inl ⟨hen,fun R w args' hS hA=> ?_⟩
 have hA':=hA
 obtain⟨l⟩:=args'
 cases hA with
 |cons hs hr=>
  obtain⟨R1,H1,t,k1,k2,k3,k4,k5⟩:=Sc h1 hS hs hrev
  rcases hC f (t::r) H1 _ k5 with⟨_,hc⟩|⟨hn,_⟩
  ·refine(hc R1 w ⟨_::_⟩ k2 (.cons k4 (hr.mono k1))).mono fun e w' he=> ?_
   obtain⟨v,v',R2,H2,rfl,hh,q1,q2,q3⟩:=he
   obtain⟨R3,H3,u,p1,p2,p3,p4,p5⟩:=We (by omega) q2 q1 hh
   exact⟨u,v',R3,H3,rfl,p5,p4,p2,(k3.trans q3).trans p3⟩
  ·have:=hn fn hfn
   rw[hbody]at this
   cases this
def Nf (g:FuncId):bS:=fun f args H K=>f=g∧∃b1 o1 n1 c1 b2 o2 n2 c2 cs1 cs2,args=[.slice (some ⟨b1,o1,none⟩) n1 c1,.slice (some ⟨b2,o2,none⟩) n2 c2]∧b1≠b2∧0<n1∧0<n2 ∧
 H.get b1=some (.cells cs1 false)∧H.get b2=some (.cells cs2 false)∧o1≤cs1.length∧cs2≠[]∧K (.bool false) H
theorem Ul {g:FuncId}{fn:Func}{tS tR e:TypeId}{size:Nat}(hf:P.funcs[g]? =some fn)(hname:(fn.name == "runtime.NumGoroutine")=false)(hb:fn.body.isNone=true)(hn:Extern.findNext fn=none)
 (he:Extern.find fn=some (Extern.SlicesOverlaps.overlaps #[tS,tS] #[tR])) (ht:P.underlying tS=some (.slice e)) (hz:bq P e=some size):vE P (Nf g):=by
 rintro f args H K ⟨rfl,b1,o1,n1,c1,b2,o2,n2,c2,cs1,cs2,rfl,hne,hn1,hn2,g1,g2,ho1,hc2,hk⟩
 refine .inr ⟨fun fn' h'=>by rw[hf]at h';injection h' with h';subst h';exact hb,fun R w args' hS hA=> ?_⟩
 obtain⟨l⟩:=args'
 cases hA with
 |cons hs hr=>
  cases hr with
  |cons hs2 hr=>
   cases hr
   rename_i u v
   have key:(Extern.SlicesOverlaps.overlaps #[tS,tS] #[tR] #[u,v]).run P w = .ok (.bool false) w:=by
    obtain⟨d1,_,h1⟩:=hs.iM
    obtain⟨d2,_,h2⟩:=hs2.iM
    have q1:=hS.obj b1 d1
    have q2:=hS.obj b2 d2
    rw[g1]at q1
    rw[g2]at q2
    obtain⟨a1,a2,arr,t,fr,a3,a4,a5,a6⟩:=q1
    obtain⟨p1,p2,PS,t2,fr2,p3,p4,p5,p6⟩:=q2
    have hlive: ∀b cs,H.get b=some (.cells cs false)→live H b∧bI H b:=fun b cs hg=>by unfold live bI;rw[hg];exact⟨trivial,trivial⟩
    have hbb:R.blk b1≠R.blk b2:=fun e=>hne (hS.inj b1 b2 d1 d2 (hlive b1 _ g1).1 (hlive b2 _ g2).1 (.inl (hlive b1 _ g1).2) e)
    have e1: ∃c',u = .slice (some ⟨R.blk b1,R.base b1+o1,none⟩) n1 c':=h1.resolve_right fun h=>by omega
    have e2: ∃c',v = .slice (some ⟨R.blk b2,R.base b2+o2,none⟩) n2 c':=h2.resolve_right fun h=>by omega
    obtain⟨c1',rfl⟩:=e1
    obtain⟨c2',rfl⟩:=e2
    have hl2:0<cs2.length:=List.length_pos_iff.2 hc2
    refine Lib.run_overlaps_apart w tS tR e ht size (fun w=>dN hz w) ⟨R.blk b1,R.base b1+o1,none⟩ ⟨R.blk b2,R.base b2+o2,none⟩ n1 c1' n2 c2' hbb t t2 arr.size PS.size (by simp[World.shape?,a3]) (by simp[World.shape?,p3]) (by omega) ?_ ?_
    ·have:=a6 rfl (R.base b1+o1) (by omega) (by omega)
     simp only[World.frozen?,a3]
     simpa using this
    ·have:=a6 rfl arr.size (by omega) (by omega)
     simp only[World.frozen?,a3]
     simpa using this
   refine⟨.bool false,w,?_,.bool false,_,R,H,rfl,hk,.bool false,hS,Ext.refl _ _ _⟩
   rw[run_callFunc_extern hf hname hb hn he,key]
   rfl
end
end
end Go.Proofs.YtpbbjfighohokaaGreatI
