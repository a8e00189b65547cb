/- The document's ballots: the greatest, the next, the vote of the greatest. / Nodes, and notes under way: deeds. / The document's nodes: plain model. / The document's nodes: who proposes. / The document's acceptor (chapter 17's texts, without Trim). -/
import Derived.Test.YtpbbjfighohokaaGreatBalC
import Derived.Test.YtpbbjfighohokaaGreatProD
import Derived.Test.YtpbbjfighohokaaGreatRpO
import Derived.Test.YtpbbjfighohokaaGreatPartDoc22
import Derived.Test.YtpbbjfighohokaaGreatBalA
import Derived.Test.YtpbbjfighohokaaGreatPartLearner
namespace Go.Proofs.YtpbbjfighohokaaGreatI
open Go
set_option linter.unusedSimpArgs false
set_option linter.unusedVariables false
section
attribute [local simp] J0 J1 J2 J3 J4 J5 J6 J7 J8 J9 Ja Jb Jc Jd Je Jf Jg Jh Ji Jj Jk Jl Jm Jn Jo Jp Jq Jr Js Jt Ju Jv Jw Jx Jy Jz JA JB JC JD JE JF JG JH JI JJ JK JL JM JN JO JP JQ JR JS aQ bZ.kind JT JU JV JW JX JY JZ Y0 Y1 Y2 Y3 Y4 Y5 Y6 Y7 Y8 Y9 Ya Yb Yc Yd Ye Yf Yg Yh Yi Yj Yk Yl Ym Yn Yo Yp Yq jq Yr Ys Yt Yu Yv Yw Yx Yy dZ bA bE Yz YA YB YC YD YE eO YF YG YH YI YJ YK YL YM YN YO YP YQ YR YS YT YU nP bK jR nG bu putAt aa.ah aa.aP aa.aK YV YW YX YY YZ B0 B1 B2 B3 B4 B5 B6 B7 B8 B9 Ba Bb Bc Bd Be Bf Bg Bh Bi Bj Bk Bl Bm Bn Bo Bp
section
def Nu (x y:ay):Int:=lX x.a x.n y.a y.n
theorem UR (l:List (Int×Int))(i:Nat)(r:Int×Int)(h:l[i]? =some r):tq (l.take (i+1))=if i=0∨0<zu r (tq (l.take i))then r else tq (l.take i):=by
 cases l with
 |nil=>simp at h
 |cons x l=>
  cases i with
  |zero=>simp at h;subst h;simp[tq,qy]
  |succ i=>
   simp only[List.take_succ_cons,tq]
   rw[DC zu l x r i (by simpa using h)]
   simp
def yM (l:List ay):ay:=match l with
 |[]=>⟨0,0,0,⟨#[]⟩⟩
 |x::l=>qy Nu l x
def W9 (l:List ay):Value:=.tuple #[vV (yM l),.bool (decide (0<l.length))]
theorem UT (l:List (ay))(i:Nat)(r:ay)(h:l[i]? =some r):yM (l.take (i+1))=if i=0∨0<Nu r (yM (l.take i))then r else yM (l.take i):=by
 cases l with
 |nil=>simp at h
 |cons x l=>
  cases i with
  |zero=>simp at h;subst h;simp[yM,qy]
  |succ i=>
   simp only[List.take_succ_cons,yM]
   rw[DC Nu l x r i (by simpa using h)]
   simp
section
variable (c:Ctx) (hB:dw c) (h16:dS c) {H:aa} {K:Value→aa→Prop}
include hB h16
theorem SI {a n node:Int}(hK: ∀H',H.le H'→K (vB (qx a node).1 (qx a node).2) H'):c.C (c.F DY) [vB a n,.int .i64 node] H K:=by
 have _:=hB
 refine c.enter h16.GV rfl ?_
 simp -implicitDefEqProofs [mV,vB]
 unfold qx vB at hK
 by_cases h1:a<0
 ·simp -implicitDefEqProofs [h1]
  simp only[h1,true_or,if_true]at hK
  exact hK _ (by(repeat' first|exact aa.le_refl _|assumption|apply aa.le.alloc|(refine aa.le.set ?_ (by(try simp only[YX,YY]);omega) _)|(refine aa.le.trans ?_ (by assumption))))
 ·by_cases h2:2147483647≤a
  ·simp -implicitDefEqProofs [h1,h2]
   simp only[h1,h2,or_true,if_true]at hK
   exact hK _ (by(repeat' first|exact aa.le_refl _|assumption|apply aa.le.alloc|(refine aa.le.set ?_ (by(try simp only[YX,YY]);omega) _)|(refine aa.le.trans ?_ (by assumption))))
  ·have hw:IntKind.i64.wrap (a+1)=a+1:=wrap64 (by omega) (by omega)
   simp -implicitDefEqProofs [h1,h2,hw]
   simp only[h1,h2,or_self,if_false]at hK
   exact hK _ (by(repeat' first|exact aa.le_refl _|assumption|apply aa.le.alloc|(refine aa.le.set ?_ (by(try simp only[YX,YY]);omega) _)|(refine aa.le.trans ?_ (by assumption))))
theorem UU {l:List (Int×Int)}{v:Value}(hs:qJ H 2 v (l.map oZ))(hl:l.length<4611686018427387904)(hK: ∀H',H.le H'→K (vB (tq l).1 (tq l).2) H'):c.C (c.F Fv) [v] H K:=by
 refine c.enter h16.IY rfl ?_
 obtain⟨a,cap,rfl,h2⟩:=hs
 have hlen:(l.map oZ).length=l.length:=by simp
 rw[hlen]
 simp -implicitDefEqProofs [oF]
 refine aS c.mono (fun n T H'=> ∃(i:Nat) (m:Int×Int),i≤l.length∧n=l.length-i∧m=tq (l.take i)∧T 0 = .slice a l.length cap ∧
  T 2 = .pointer (some ⟨H.next,0,none⟩)∧T 3 = .pointer (some ⟨H.next+1,0,none⟩)∧T 4 = .int .i64 i∧H.next+2≤H'.next∧(∀k,k<H.next→H'.get k=H.get k) ∧
  H'.get H.next=some (.cells [.int .i64 0,.int .i64 0] false)∧H'.get (H.next+1)=some (.cells (oZ m) false)) l.length ?_ ?_
 ·refine⟨0,(0,0),by omega,rfl,rfl,?_⟩
  simp -implicitDefEqProofs [oZ]
  intro k hk
  have e1:k≠H.next:=by omega
  have e2:k≠H.next+1:=by omega
  simp[e1,e2]
 ·rintro n T H' ⟨i,m,hi,rfl,hm,t0,t2,t3,t4,hn,hold,g4,g5⟩
  by_cases hil:i<l.length
  ·obtain⟨b,o,cs,ro,rfl,hb,hget,hrow⟩:=h2 (by intro h;simp at h;subst h;simp at hil)
   have hb':=hold b hb
   obtain⟨_,s2,s3⟩:=hrow i (oZ l[i]) (by simp[hil])
   have hbn:b≠H.next+1:=by omega
   have hw:IntKind.i64.wrap ((i:Int)+1)=(i:Int)+1:=wrap64 (by omega) (by omega)
   have hmt:=UR l i l[i] (by simp[hil])
   rw[←hm]at hmt
   by_cases hi0:i=0
   ·rw[if_pos (.inl hi0)]at hmt
    subst hi0
    simp only[Nat.zero_mul,Nat.add_zero]at s2 s3
    simp -implicitDefEqProofs [t0,t2,t3,t4,hil,hb',hget,s2,s3,g5,g4,oZ,hw]
    refine⟨l.length-1,by omega,1,by omega,rfl,by decide,hn,fun k hk=> ?_,?_⟩
    ·rw[if_neg (by omega),hold k hk]
    ·have qaO:tq (List.take 1 l)=l[0]:=hmt
     rw[qaO];exact⟨rfl,rfl⟩
   ·simp -implicitDefEqProofs [t0,t2,t3,t4,hil,hb',hget,s2,s3,g5,oZ,hi0]
    refine aI c.mono (vW c hB fun H1 h1=> ?_)
    have k5:=(h1.get (H.next+1) (by omega)).trans g5
    have k4:=(h1.get H.next (by omega)).trans g4
    have kb:=(h1.get b (by omega)).trans hb'
    by_cases hcmp:0<lX l[i].1 l[i].2 m.1 m.2
    ·simp -implicitDefEqProofs [t0,t2,t3,t4,hil,hb',hget,s2,s3,k5,k4,kb,oZ,hi0,hcmp,hw]
     rw[if_pos (.inr hcmp)]at hmt
     refine⟨l.length-(i+1),by omega,i+1,by omega,rfl,by simp,by have:=h1.next;omega,fun k hk=> ?_,?_⟩
     ·rw[if_neg (by omega),h1.get k (by omega),hold k hk]
     ·rw[hmt];exact⟨rfl,rfl⟩
    ·simp -implicitDefEqProofs [t0,t2,t3,t4,hil,hb',hget,s2,s3,k5,k4,kb,oZ,hi0,hcmp,hw]
     rw[if_neg (by rintro(h|h);exact hi0 h;exact hcmp h)]at hmt
     refine⟨l.length-(i+1),by omega,i+1,by omega,rfl,by simp,by have:=h1.next;omega,fun k hk=> ?_,?_⟩
     ·rw[h1.get k (by omega),hold k hk]
     ·rw[hmt];exact⟨rfl,rfl⟩
  ·have hie:i=l.length:=by omega
   subst hie
   rw[List.take_length]at hm
   simp -implicitDefEqProofs [t0,t2,t3,t4,g5,g4,oZ]
   rw[←hm]at hK
   refine hK _ ⟨by simp only[YY];omega,fun k hk=> ?_⟩
   rw[YW,if_neg (by omega)];exact hold k hk
theorem SK {l:List (ay)}{v:Value}(hs:qJ H 4 v (l.map aG))(hl:l.length<4611686018427387904)(hK: ∀H',H.le H'→K (W9 l) H'):c.C (c.F DZ) [v] H K:=by
 refine c.enter h16.GX rfl ?_
 obtain⟨a,cap,rfl,h2⟩:=hs
 have hlen:(l.map aG).length=l.length:=by simp
 rw[hlen]
 simp -implicitDefEqProofs [mW]
 refine aS c.mono (fun n T H'=> ∃(i:Nat) (m:ay),i≤l.length∧n=l.length-i∧m=yM (l.take i)∧T 0 = .slice a l.length cap ∧
  T 2 = .pointer (some ⟨H.next,0,none⟩)∧T 4 = .pointer (some ⟨H.next+1,0,none⟩)∧T 5 = .int .i64 i∧H.next+2≤H'.next∧(∀k,k<H.next→H'.get k=H.get k) ∧
  H'.get H.next=some (.cells [.int .i64 0,.int .i64 0,.int .i64 0,.string ⟨#[]⟩] false)∧H'.get (H.next+1)=some (.cells (aG m) false)) l.length ?_ ?_
 ·refine⟨0,⟨0,0,0,⟨#[]⟩⟩,by omega,rfl,rfl,?_⟩
  simp -implicitDefEqProofs [aG]
  intro k hk
  have e1:k≠H.next:=by omega
  have e2:k≠H.next+1:=by omega
  simp[e1,e2]
 ·rintro n T H' ⟨i,m,hi,rfl,hm,t0,t2,t4,t5,hn,hold,g4,g5⟩
  by_cases hil:i<l.length
  ·obtain⟨b,o,cs,ro,rfl,hb,hget,hrow⟩:=h2 (by intro h;simp at h;subst h;simp at hil)
   have hb':=hold b hb
   obtain⟨_,s2,s3⟩:=hrow i (aG l[i]) (by simp[hil])
   have hbn:b≠H.next+1:=by omega
   have hw:IntKind.i64.wrap ((i:Int)+1)=(i:Int)+1:=wrap64 (by omega) (by omega)
   have hmt:=UT l i l[i] (by simp[hil])
   rw[←hm]at hmt
   by_cases hi0:i=0
   ·rw[if_pos (.inl hi0)]at hmt
    subst hi0
    simp only[Nat.zero_mul,Nat.add_zero]at s2 s3
    simp -implicitDefEqProofs [t0,t2,t4,t5,hil,hb',hget,s2,s3,g5,g4,aG,hw]
    refine⟨l.length-1,by omega,1,by omega,rfl,by decide,hn,fun k hk=> ?_,?_⟩
    ·rw[if_neg (by omega),hold k hk]
    ·have qaO:yM (List.take 1 l)=l[0]:=hmt
     rw[qaO];exact⟨rfl,rfl,rfl,rfl⟩
   ·simp -implicitDefEqProofs [t0,t2,t4,t5,hil,hb',hget,s2,s3,g5,aG,hi0]
    have s4:=win s2 1 2 (by omega)
    have s5:o+i*4+1+2≤cs.length:=by omega
    simp[aG]at s4
    simp -implicitDefEqProofs [s4,s5,t0,t2,t4,t5,g5,aG]
    refine aI c.mono (vW c hB fun H1 h1=> ?_)
    have k5:=(h1.get (H.next+1) (by omega)).trans g5
    have k4:=(h1.get H.next (by omega)).trans g4
    have kb:=(h1.get b (by omega)).trans hb'
    by_cases hcmp:0<lX l[i].a l[i].n m.a m.n
    ·simp -implicitDefEqProofs [t0,t2,t4,t5,hil,hb',hget,s2,s3,k5,k4,kb,aG,hi0,hcmp,hw]
     rw[if_pos (.inr hcmp)]at hmt
     refine⟨l.length-(i+1),by omega,i+1,by omega,rfl,by simp,by have:=h1.next;omega,fun k hk=> ?_,?_⟩
     ·rw[if_neg (by omega),h1.get k (by omega),hold k hk]
     ·rw[hmt];exact⟨rfl,rfl,rfl,rfl⟩
    ·simp -implicitDefEqProofs [t0,t2,t4,t5,hil,hb',hget,s2,s3,k5,k4,kb,aG,hi0,hcmp,hw]
     rw[if_neg (by rintro(h|h);exact hi0 h;exact hcmp h)]at hmt
     refine⟨l.length-(i+1),by omega,i+1,by omega,rfl,by simp,by have:=h1.next;omega,fun k hk=> ?_,?_⟩
     ·rw[h1.get k (by omega),hold k hk]
     ·rw[hmt];exact⟨rfl,rfl,rfl,rfl⟩
  ·have hie:i=l.length:=by omega
   subst hie
   rw[List.take_length]at hm
   simp -implicitDefEqProofs [t0,t2,t4,t5,g5,g4,aG]
   unfold W9 vV at hK
   rw[←hm]at hK
   refine hK _ ⟨by simp only[YY];omega,fun k hk=> ?_⟩
   rw[YW,if_neg (by omega)];exact hold k hk
end
end
section
def Tp.place (S:Tp)(i:Int):Nat:=(GM i S.way.length).toNat
def Tp.wP (S:Tp)(d:yg):Tp×Bool:=
 if d.kind=0 then (if S.way=[]then (S,false)else (S.GR (S.place d.a),true))
 else if d.kind=1 then (if S.way=[]then (S,false)else (S.drop (S.place d.a),true))
 else if d.kind=2 then (if S.way=[]∨S.way.length=1024 then (S,false)else ((S.way[S.place d.a]?).elim S S.double,true))
 else if d.kind=3 then (match S.at d.a with
  |none=>(S,false)
  |some R=>(S.say d.a.toNat R.lead,true))
 else if d.kind=4 then (match S.at d.a with
  |none=>(S,false)
  |some R=>if (R.ax d.text).2.2=0 then (S.say d.a.toNat ((R.ax d.text).1,(R.ax d.text).2.1),true)else (S,false))
 else if d.kind=5 then (match S.at d.a,S.at d.b with
  |some R,some _=>(S.say d.a.toNat (R,R.ask d.b),true)
  |_,_=>(S,false))
 else if d.kind=6 then (match S.at d.a with
  |none=>(S,false)
  |some R=>(S.say d.a.toNat (R.gM,[]),true))
 else (S,false)
section
variable (c:Ctx) (hc:jm c) (hN:qV c) (hL:vU c) {H:aa} {K:Value→aa→Prop} {w:Nat→Nat} {t:Nat} {S:Tp} {n:Int}
include hL in
theorem qaP {v:Value}{l:List yg}(hv:qJ H 4 v (l.map EU))(h0:K (.bool false) H)(h1:l.length≤200→(∀d ∈ l,d.text.size≤100)→K (.bool true) H):
 c.C (c.F Fp) [v] H K:=by
 refine c.enter hL.IW rfl ?_
 obtain⟨va,vc,XH⟩: ∃a cap,v = .slice a l.length cap:=by obtain⟨a,cap,e,_⟩:=hv;rw[List.length_map]at e;exact⟨a,cap,e⟩
 by_cases h60:l.length≤200
 ·have qaQ: ¬ (200:Int)<(l.length:Int):=by omega
  rw[XH]
  simp -implicitDefEqProofs [kS,qaQ]
  refine aS c.mono (fun k T H'=> ∃i:Nat,i≤l.length∧k=l.length-i∧T 0=v∧T 3 = .int .i64 i∧H=H'∧∀d ∈ l.take i,d.text.size≤100) l.length ?_ ?_
  ·refine⟨0,by omega,rfl,?_⟩
   simp -implicitDefEqProofs []
   exact XH.symm
  ·rintro k T H' ⟨i,hi,rfl,t0,t3,rfl,hd⟩
   by_cases hil:i<l.length
   ·have qB:(i:Int)<(l.length:Int):=by omega
    have wi:IntKind.i64.wrap ((i:Int)+1)=(i:Int)+1:=wrap64 (by omega) (by omega)
    obtain⟨x,hx⟩: ∃x,l[i]? =some x:=⟨l[i],List.getElem?_eq_getElem hil⟩
    obtain⟨b,o,cap,cs,ro,e,hb,hg,_,hrow,hbd⟩:=hv.at (i:=i) (r:=EU x) (by rw[List.getElem?_map,hx];rfl)
    rw[List.length_map]at e
    have e3:=Dy hrow 3 (by omega)
    simp only[EU,List.getElem?_cons_zero,List.getElem?_cons_succ]at e3
    have ht:x.text.data.toList.length=x.text.size:=rfl
    by_cases c1:100<x.text.size
    ·have c1':(100:Int)<(x.text.size:Int):=by omega
     simp -implicitDefEqProofs [t0,t3,e,hg,hil,qB,hbd,e3,ht,c1,c1']
     exact h0
    ·have c1': ¬ (100:Int)<(x.text.size:Int):=by omega
     simp -implicitDefEqProofs [t0,t3,e,hg,hil,qB,hbd,e3,ht,c1,c1',wi]
     refine⟨l.length-(i+1),by omega,i+1,by omega,rfl,rfl,fun d hd'=> ?_⟩
     rw[List.take_add_one,hx]at hd'
     rcases List.mem_append.1 hd' with hd'|hd'
     ·exact hd d hd'
     ·simp only[Option.toList_some,List.mem_singleton]at hd'
      subst hd'
      omega
   ·have qB: ¬ (i:Int)<(l.length:Int):=by omega
    simp -implicitDefEqProofs [t0,t3,XH,hil,qB]
    exact h1 h60 (by rw[List.take_of_length_le (by omega)]at hd;exact hd)
 ·have qaQ:(200:Int)<(l.length:Int):=by omega
  rw[XH]
  simp -implicitDefEqProofs [kS,qaQ]
  exact h0
include hc hN hL in
theorem qby {d:yg}(h:xP w H t (c.F aD) S)(ho:S.ok n)(hK: ∀H',Tn w H t (c.F aD) (S.wP d).1 H'→(S.wP d).1.ok n→K (.bool (S.wP d).2) H'):
 c.C (c.F GQ) [.pointer (some ⟨t,0,none⟩),.agg #[.int .i64 d.kind,.int .i64 d.a,.int .i64 d.b,.string d.text]] H K:=by
 refine c.enter hL.LW rfl ?_
 obtain⟨H0,hH0⟩: ∃X:aa,X=H.alloc (.cells [.int .i64 d.kind,.int .i64 d.a,.int .i64 d.b,.string d.text] false):=⟨_,rfl⟩
 have k0:H.le H0:=by rw[hH0];exact H.aj _
 have b0:H0.get H.next=some (.cells [.int .i64 d.kind,.int .i64 d.a,.int .i64 d.b,.string d.text] false):=by rw[hH0,YV,if_pos rfl]
 have h':=h.le k0
 have up: ∀{S':Tp} {H':aa},Tn w H0 t (c.F aD) S' H'→Tn w H t (c.F aD) S' H':=fun tn=>tn.of_le k0 h.lt
 have st:=up (Tn.same h')
 unfold Tp.wP at hK
 by_cases e0:d.kind=0
 ·rw[if_pos e0]at hK
  rw[e0]at b0 hH0
  simp -implicitDefEqProofs [dh,←hH0,e0,b0]
  refine av (zT c hc hN (i:=d.a) h' ho (fun hz H1 tn=> ?_) fun a x R ha hx hR H1 tn ok1=> ?_)
  ·rw[if_pos hz]at hK
   simp -implicitDefEqProofs []
   exact hK H1 (up tn) ho
  ·have hp:S.place d.a=a:=by unfold Tp.place;omega
   rw[if_neg (fun hz=>by rw[hz]at hx;simp at hx),hp,Tp.Nr hx hR]at hK
   simp -implicitDefEqProofs []
   exact hK H1 (up tn) ok1
 rw[if_neg e0]at hK
 by_cases e1:d.kind=1
 ·rw[if_pos e1]at hK
  rw[e1]at b0 hH0
  simp -implicitDefEqProofs [dh,←hH0,e1,b0]
  refine av (WV c hc (i:=d.a) h' ho (fun hz H1 tn=> ?_) fun a x ha hx H1 tn=> ?_)
  ·rw[if_pos hz]at hK
   simp -implicitDefEqProofs []
   exact hK H1 (up tn) ho
  ·have hp:S.place d.a=a:=by unfold Tp.place;omega
   rw[if_neg (fun hz=>by rw[hz]at hx;simp at hx),hp]at hK
   simp -implicitDefEqProofs []
   exact hK H1 (up tn) (ho.drop a)
 rw[if_neg e1]at hK
 by_cases e2:d.kind=2
 ·rw[if_pos e2]at hK
  rw[e2]at b0 hH0
  simp -implicitDefEqProofs [dh,←hH0,e2,b0]
  refine av (SG c hc (i:=d.a) h' ho (fun hz=> ?_) fun a x ha hl hx H1 tn ok1=> ?_)
  ·rw[if_pos hz]at hK
   simp -implicitDefEqProofs []
   exact hK H0 st ho
  ·have hp:S.place d.a=a:=by unfold Tp.place;omega
   rw[if_neg (fun hz=>by rcases hz with hz|hz;rw[hz]at hx;simp at hx;omega),hp,hx]at hK
   simp -implicitDefEqProofs []
   exact hK H1 (up tn) ok1
 rw[if_neg e2]at hK
 by_cases e3:d.kind=3
 ·rw[if_pos e3]at hK
  rw[e3]at b0 hH0
  simp -implicitDefEqProofs [dh,←hH0,e3,b0]
  refine av (LV c hc hN (i:=d.a) h' ho (fun hz=> ?_) fun R hR H1 tn ok1=> ?_)
  ·rw[hz]at hK
   simp -implicitDefEqProofs []
   exact hK H0 st ho
  ·rw[hR]at hK
   simp -implicitDefEqProofs []
   exact hK H1 (up tn) ok1
 rw[if_neg e3]at hK
 by_cases e4:d.kind=4
 ·rw[if_pos e4]at hK
  rw[e4]at b0 hH0
  simp -implicitDefEqProofs [dh,←hH0,e4,b0]
  refine av (zS c hc hN (i:=d.a) (s:=d.text) h' ho (fun hz=> ?_) (fun R hR he H1 tn ok1=> ?_) fun R hR he H1 tn=> ?_)
  ·rw[hz]at hK
   simp -implicitDefEqProofs []
   exact hK H0 st ho
  ·rw[hR]at hK
   simp only[he,if_true]at hK
   simp -implicitDefEqProofs []
   exact hK H1 (up tn) ok1
  ·rw[hR]at hK
   simp only[he,if_false]at hK
   simp -implicitDefEqProofs [he]
   exact hK H1 (up tn) ho
 rw[if_neg e4]at hK
 by_cases e5:d.kind=5
 ·rw[if_pos e5]at hK
  rw[e5]at b0 hH0
  simp -implicitDefEqProofs [dh,←hH0,e5,b0]
  refine av (Zo c hc hN (i:=d.a) (j:=d.b) h' ho (fun hz=> ?_) fun R Q hR hQ H1 tn ok1=> ?_)
  ·have:(match S.at d.a,S.at d.b with|some R,some _=>(S.say d.a.toNat (R,R.ask d.b),true)|_,_=>(S,false))=(S,false):=by
    rcases hz with hz|hz
    ·rw[hz]
    ·rw[hz];cases S.at d.a <;> rfl
   rw[this]at hK
   simp -implicitDefEqProofs []
   exact hK H0 st ho
  ·rw[hR,hQ]at hK
   simp -implicitDefEqProofs []
   exact hK H1 (up tn) ok1
 rw[if_neg e5]at hK
 by_cases e6:d.kind=6
 ·rw[if_pos e6]at hK
  rw[e6]at b0 hH0
  simp -implicitDefEqProofs [dh,←hH0,e6,b0]
  refine av (UO c hc hN (i:=d.a) h' ho (fun hz=> ?_) fun R hR H1 tn ok1=> ?_)
  ·rw[hz]at hK
   simp -implicitDefEqProofs []
   exact hK H0 st ho
  ·rw[hR]at hK
   simp -implicitDefEqProofs []
   exact hK H1 (up tn) ok1
 rw[if_neg e6]at hK
 simp -implicitDefEqProofs [dh,←hH0,e0,e1,e2,e3,e4,e5,e6,b0]
 exact hK H0 st ho
end
end
end
structure DP where
 n:Int
 me:Int
 fr:Int
 next:Int
 ba:Int
 bn:Int
 asks:Bool
 leads:Bool
 filled:Bool
 who:Nat→Bool
 L:List ay
def fJ (P:DP)(u:Value):List Value:=[.int .i64 P.n,.int .i64 P.me,.int .i64 P.fr,.int .i64 P.next,.int .i64 P.ba,.int .i64 P.bn,.bool P.asks,.bool P.leads,.bool P.filled,
 .bool (P.who 0),.bool (P.who 1),.bool (P.who 2),.bool (P.who 3),.bool (P.who 4),.bool (P.who 5),.bool (P.who 6),u]
def Ev (P:DP)(u:Value):Value:=.agg #[.int .i64 P.n,.int .i64 P.me,.int .i64 P.fr,.int .i64 P.next,.int .i64 P.ba,.int .i64 P.bn,.bool P.asks,.bool P.leads,.bool P.filled,
 .bool (P.who 0),.bool (P.who 1),.bool (P.who 2),.bool (P.who 3),.bool (P.who 4),.bool (P.who 5),.bool (P.who 6),u]
def DP.new (n me:Int):DP:=⟨n,me,0,0,0,0,false,false,false,fun _=>false,[]⟩
def DP.lead (P:DP)(a n fr:Int):DP×(Int×Int)×Int:=
 if bJ a n=false∨fr<0∨1024≤fr then (P,(0,0),1)
 else if 2147483647≤(tq [(a,n),(P.ba,P.bn)]).1 then (P,(0,0),5)
 else (⟨P.n,P.me,fr,fr,(qx (tq [(a,n),(P.ba,P.bn)]).1 P.me).1,(qx (tq [(a,n),(P.ba,P.bn)]).1 P.me).2,true,false,false,fun _=>false,[]⟩,qx (tq [(a,n),(P.ba,P.bn)]).1 P.me,0)
def DP.takes (P:DP)(v:ay):Bool:=decide (P.fr≤v.slot)&&(decide (v.slot<1024)&&(bJ v.a v.n&&decide (v.val.size≤4096)))
def DP.count (P:DP)(v:ay):DP:=if P.takes v=true then {P with L:=P.L++[v],next:=if v.slot+1>P.next then v.slot+1 else P.next}else P
def DP.promise (P:DP)(fr a n:Int)(l:List ay):DP×Bool:=
 if fr<0∨P.n≤fr∨P.asks=false∨¬ (a=P.ba∧n=P.bn)∨P.who fr.toNat=true then (P,false)
 else if (pV (setW P.who fr.toNat) P.n.toNat:Int)<aO P.n then (l.foldl DP.count {P with who:=setW P.who fr.toNat},false)
 else ({(l.foldl DP.count {P with who:=setW P.who fr.toNat})with asks:=false,leads:=true},true)
def zX (P:DP):Int:=P.L.foldl (fun m v=>if v.slot>m then v.slot else m) (P.fr-1)
def jQ (L:List ay)(s:Int):List ay:=L.filter fun v=>decide (v.slot=s)
def vX (P:DP)(s:Int):Nat→List ay
 |0=>[]
 |k+1=>⟨s,P.ba,P.bn,(yM (jQ P.L s)).val⟩::vX P (s+1) k
def DP.fill (P:DP):DP×List ay:=if P.leads=false∨P.filled=true then (P,[])else ({P with filled:=true},vX P P.fr (zX P+1-P.fr).toNat)
def DP.ax (P:DP)(s:ByteArray):DP×ay×Int:=
 if 4096<s.size then (P,zx,2)else if 1024≤P.next then (P,zx,5)else if P.leads=false then (P,zx,16)else ({P with next:=P.next+1},⟨P.next,P.ba,P.bn,s⟩,0)
def DP.step (P:DP)(a n:Int):DP×Bool:=
 if bJ a n=false∨lX a n P.ba P.bn≤0 then (P,false)else ({P with ba:=a,bn:=n,asks:=false,leads:=false},true)
structure DL where
 n:Int
 base:Int
 told:List (Int×ByteArray)
 ai:List (Int×ay)
def kT (p:Int×ByteArray):List Value:=[.int .i64 p.1,.string p.2]
def lS (p:Int×ay):List Value:=[.int .i64 p.1,.int .i64 p.2.slot,.int .i64 p.2.a,.int .i64 p.2.n,.string p.2.val]
def dlL (l:DL)(u v:Value):List Value:=[.int .i64 l.n,.int .i64 l.base,u,v]
def Gv (l:DL)(u v:Value):Value:=.agg #[.int .i64 l.n,.int .i64 l.base,u,v]
def kU (l:DL)(s:Int):Option ByteArray:=(l.told.find? fun p=>decide (p.1=s)&&decide (l.base≤s)).map (·.2)
def Ej (l:DL)(s:Int)(v:ByteArray):Bool:=(kU l s).isNone&&(decide (l.base≤s)&&(decide (s<1024)&&decide (v.size≤4096)))
def DL.tell (l:DL)(s:Int)(v:ByteArray):DL×Bool:=if Ej l s v=true then ({l with told:=l.told++[(s,v)]},true)else (l,false)
def fZ (fr s:Int)(x:Int×ay):Bool:=decide (x.1=fr)&&decide (x.2.slot=s)
def uO (l:DL)(fr:Int)(v:ay):Bool:=l.ai.any fun x=>fZ fr v.slot x&&decide (0≤lX x.2.a x.2.n v.a v.n)
def DL.mG (l:DL)(fr:Int)(v:ay):DL:={l with ai:=(l.ai.filter fun x=> !fZ fr v.slot x)++[(fr,v)]}
def Cu (l:List (Int×ay))(v:ay):Nat:=l.countP fun x=>decide (x.2=v)
def DL.hear (l:DL)(fr:Int)(v:ay):DL×Bool:=
 if fr<0∨l.n≤fr∨bJ v.a v.n=false∨Ej l v.slot v.val=false then (l,false)
 else if uO l fr v=true then (l,false)
 else if (Cu (l.mG fr v).ai v:Int)<aO l.n then (l.mG fr v,false)else (l.mG fr v).tell v.slot v.val
def kV (l:DL):Int:=scanUp (fun s=>(kU l s).isSome) l.base (1024-l.base).toNat
def Ht (l:DL)(u:Int):List ByteArray:=(List.range (kV l-(if u<l.base then l.base else u)).toNat).map fun(i:Nat)=>(kU l ((if u<l.base then l.base else u)+i)).getD Pz
structure DR where
 n:Int
 me:Int
 A:Acc
 P:DP
 L:DL
def drL (R:DR)(ua up ut uv:Value):List Value:=[.int .i64 R.n,.int .i64 R.me,.int .i64 R.A.pa,.int .i64 R.A.pn,.int .i64 R.A.base,ua]++(fJ R.P up++dlL R.L ut uv)
def DR.new (n me:Int):DR:=⟨n,me,⟨0,0,0,[]⟩,DP.new n me,⟨n,0,[],[]⟩⟩
def kJ (R:DR)(x:az):List az:=(List.range R.n.toNat).map fun(i:Nat)=>{x with fr:=R.me,to:=(i:Int)}
def DR.lead (R:DR):DR×List az:=
 if (R.P.lead R.A.pa R.A.pn (kV R.L)).2.2≠0 then (R,[])
 else ({R with P:=(R.P.lead R.A.pa R.A.pn (kV R.L)).1,A:=(R.A.promise (R.P.lead R.A.pa R.A.pn (kV R.L)).2.1.1 (R.P.lead R.A.pa R.A.pn (kV R.L)).2.1.2 (kV R.L)).1},
  kJ R (uk (kV R.L) (R.P.lead R.A.pa R.A.pn (kV R.L)).2.1.1 (R.P.lead R.A.pa R.A.pn (kV R.L)).2.1.2))
def DR.ax (R:DR)(s:ByteArray):DR×List az×Int:=
 if (R.P.ax s).2.2≠0 then (R,[],(R.P.ax s).2.2)else ({R with P:=(R.P.ax s).1},kJ R (cB 3 (R.P.ax s).2.1),0)
def DR.ask (R:DR)(i:Int):List az:=if i<0∨R.n≤i then []else [⟨5,R.me,i,kV R.L,0,0,[]⟩]
def DR.step (R:DR)(a n:Int):DR:={R with P:=(R.P.step a n).1}
def DR.bQ (R:DR)(x:az):DR×List az:=
 if x.slot<0∨1024≤x.slot then (R.step x.ba x.bn,[])
 else if (R.A.promise x.ba x.bn x.slot).2.2=false then ({R.step x.ba x.bn with A:=(R.A.promise x.ba x.bn x.slot).1},[])
 else ({R.step x.ba x.bn with A:=(R.A.promise x.ba x.bn x.slot).1},[⟨2,R.me,x.fr,0,x.ba,x.bn,(R.A.promise x.ba x.bn x.slot).2.1⟩])
def DR.promise (R:DR)(x:az):DR×List az:=
 if (R.P.promise x.fr x.ba x.bn x.ai).2=false then ({R with P:=(R.P.promise x.fr x.ba x.bn x.ai).1},[])
 else ({R with P:=(R.P.promise x.fr x.ba x.bn x.ai).1.fill.1},(R.P.promise x.fr x.ba x.bn x.ai).1.fill.2.flatMap fun v=>kJ R (cB 3 v))
def OV (R:DR)(x:az):List ay:=fQ x.slot 0 ((Ht R.L x.slot).take 8)
def DR.tell (R:DR)(x:az):List az:=if x.slot<R.L.base then []else if OV R x=[]then []else [⟨6,R.me,x.fr,0,0,0,OV R x⟩]
def mE (L:DL)(l:List ay):DL:=l.foldl (fun L v=>(L.tell v.slot v.val).1) L
def DR.take (R:DR)(x:az):DR×List az:=
 if x.to≠R.me∨x.fr<0∨R.n≤x.fr then (R,[])
 else if x.kind=1 then R.bQ x else if x.kind=2 then R.promise x
 else if x.kind=5 then (R,R.tell x)
 else if x.kind=6 then ({R with L:=mE R.L x.ai},[])
 else if x.kind=3∧x.ai.length=1 then ({R.step (gF x.ai).a (gF x.ai).n with A:=(R.A.accept (gF x.ai)).1},if (R.A.accept (gF x.ai)).2=true then kJ R (cB 4 (gF x.ai))else [])
 else if x.kind=4∧x.ai.length=1 then ({R with L:=(R.L.hear x.fr (gF x.ai)).1},[])
 else (R,[])
def DR.gM (R:DR):DR:={R with P:=DP.new R.n R.me,L:=⟨R.n,R.A.base,[],[]⟩}
structure DT where
 R:List DR
 way:List az
def DT.at (S:DT)(i:Int):Option DR:=if 0≤i then S.R[i.toNat]? else none
def DT.say (S:DT)(i:Nat)(r:DR×List az):DT:=⟨S.R.set i r.1,DX S.way r.2⟩
def DT.place (S:DT)(i:Int):Nat:=(GM i S.way.length).toNat
def DT.wP (S:DT)(d:yg):DT×Bool:=
 if d.kind=0 then (if S.way=[]then (S,false)else (match S.way[S.place d.a]? with
  |none=>(S,true)
  |some x=>match S.R[x.to.toNat]? with
   |none=>(S,true)
   |some R=>(DT.say ⟨S.R,S.way.eraseIdx (S.place d.a)⟩ x.to.toNat (R.take x),true)))
 else if d.kind=1 then (if S.way=[]then (S,false)else (⟨S.R,S.way.eraseIdx (S.place d.a)⟩,true))
 else if d.kind=2 then (if S.way=[]∨1024≤S.way.length then (S,false)else (match S.way[S.place d.a]? with
  |none=>(S,true)
  |some x=>(⟨S.R,S.way++[x]⟩,true)))
 else if d.kind=3 then (match S.at d.a with
  |none=>(S,false)
  |some R=>(S.say d.a.toNat R.lead,true))
 else if d.kind=4 then (match S.at d.a with
  |none=>(S,false)
  |some R=>if (R.ax d.text).2.2=0 then (S.say d.a.toNat ((R.ax d.text).1,(R.ax d.text).2.1),true)else (S,false))
 else if d.kind=5 then (match S.at d.a with
  |none=>(S,false)
  |some R=>if S.at d.b=none then (S,false)else (S.say d.a.toNat (R,R.ask d.b),true))
 else if d.kind=6 then (match S.at d.a with
  |none=>(S,false)
  |some R=>(S.say d.a.toNat (R.gM,[]),true))
 else (S,false)
def DT.new (n:Int):DT:=⟨if aO n=0 then []else (List.range n.toNat).map fun(j:Nat)=>DR.new n j,[]⟩
section
attribute [local simp] J0 J1 J2 J3 J4 J5 J6 J7 J8 J9 Ja Jb Jc Jd Je Jf Jg Jh Ji Jj Jk Jl Jm Jn Jo Jp Jq Jr Js Jt Ju Jv Jw Jx Jy Jz JA JB JC JD JE JF JG JH JI JJ JK JL JM JN JO JP JQ JR JS aQ bZ.kind JT JU JV JW JX JY JZ Y0 Y1 Y2 Y3 Y4 Y5 Y6 Y7 Y8 Y9 Ya Yb Yc Yd Ye Yf Yg Yh Yi Yj Yk Yl Ym Yn Yo Yp Yq jq Yr Ys Yt Yu Yv Yw Yx Yy dZ bA bE Yz YA YB YC YD YE eO YF YG YH YI YJ YK YL YM YN YO YP YQ YR YS YT YU nP bK jR nG bu putAt aa.ah aa.aP aa.aK YV YW YX YY YZ B0 B1 B2 B3 B4 B5 B6 B7 B8 B9 Ba Bb Bc Bd Be Bf Bg Bh Bi Bj Bk Bl Bm Bn Bo Bp
section
def u7 (P:DP)(u:Value):fK:=.cells [.int .i64 P.n,.int .i64 P.me,.int .i64 P.fr,.int .i64 P.next,.int .i64 P.ba,.int .i64 P.bn,.bool P.asks,.bool P.leads,.bool P.filled,
 .bool (P.who 0),.bool (P.who 1),.bool (P.who 2),.bool (P.who 3),.bool (P.who 4),.bool (P.who 5),.bool (P.who 6),u] false
theorem Xb {a b:Int}(hb:0<b∧b<9223372036854775808):IntKind.i64.wrap (Int.tmod a b)=Int.tmod a b:=by
 have h1:=Int.tmod_lt_of_pos a hb.1
 have h2: -b<Int.tmod a b:=by
  have:=Int.neg_lt_of_neg_lt (Int.tmod_lt_of_pos (-a) hb.1 |> fun z=>by rw[Int.neg_tmod]at z;exact z)
  exact this
 exact wrap64 (by omega) (by omega)
section
variable (c:Ctx) (hB:dw c) (h16:dS c) (h19:dU c) {H:aa} {K:Value→aa→Prop}
include h16 in
theorem Xc {i:Int}{n:Nat}(hn:0<n∧n≤1024)(hK:K (.int .i64 (GM i n)) H):c.C (c.F GU) [.int .i64 i,.int .i64 n] H K:=by
 refine c.enter h16.LY rfl ?_
 have h0: ¬ (n:Int)=0:=by omega
 have h0': ¬ n=0:=by omega
 have h1:=Int.tmod_lt_of_pos i (b:=(n:Int)) (by omega)
 have w1:=Xb (a:=i) (b:=(n:Int)) ⟨by omega,by omega⟩
 have h2: -(n:Int)<Int.tmod i n:=by
  have:=Int.tmod_lt_of_pos (-i) (b:=(n:Int)) (by omega)
  rw[Int.neg_tmod]at this
  omega
 have w2:IntKind.i64.wrap (Int.tmod i n+n)=Int.tmod i n+n:=wrap64 (by omega) (by omega)
 have w3:=Xb (a:=Int.tmod i n+n) (b:=(n:Int)) ⟨by omega,by omega⟩
 unfold GM at hK
 simp -implicitDefEqProofs [p8,h0,h0',w1,w2,w3]
 exact hK
include hB h16 h19 in
theorem Xd {P:DP}{a:Option Addr}{k cp:Nat}{x n fr:Int}(hK: ∀u' H',H.le H'→((P.lead x n fr).2.2≠0→u' = .slice a k cp)→((P.lead x n fr).2.2=0→u' = .slice none 0 0)→K (.tuple #[Ev (P.lead x n fr).1 u',vB (P.lead x n fr).2.1.1 (P.lead x n fr).2.1.2,.int .i64 (P.lead x n fr).2.2]) H'):
 c.C (c.F sM) [Ev P (.slice a k cp),vB x n,.int .i64 fr] H K:=by
 refine c.enter h19.GY rfl ?_
 unfold DP.lead at hK
 obtain⟨H0,hH0⟩: ∃X:aa,X=((((H.alloc (u7 P (.slice a k cp))).alloc (.cells [.int .i64 x,.int .i64 n] false)).alloc (u7 (DP.new 0 0) (.slice none 0 0))).alloc (.cells [.int .i64 0,.int .i64 0] false)):=⟨_,rfl⟩
 have k0:H.le H0:=by rw[hH0];exact(((H.aj _).alloc _).alloc _).alloc _
 have n0:H0.next=H.next+4:=by rw[hH0];rfl
 have g0:H0.get H.next=some (u7 P (.slice a k cp)):=by rw[hH0];simp only[YV,YX];repeat (first|rw[if_pos trivial]|rw[if_pos (by omega)]|rw[if_neg (by omega)])
 have g1:H0.get (H.next+1)=some (.cells [.int .i64 x,.int .i64 n] false):=by rw[hH0];simp only[YV,YX];repeat (first|rw[if_pos trivial]|rw[if_pos (by omega)]|rw[if_neg (by omega)])
 have g2:H0.get (H.next+2)=some (u7 (DP.new 0 0) (.slice none 0 0)):=by rw[hH0];simp only[YV,YX];repeat (first|rw[if_pos trivial]|rw[if_pos (by omega)]|rw[if_neg (by omega)])
 have g3:H0.get (H.next+3)=some (.cells [.int .i64 0,.int .i64 0] false):=by rw[hH0];simp only[YV,YX];repeat (first|rw[if_pos trivial]|rw[if_pos (by omega)]|rw[if_neg (by omega)])
 unfold u7 DP.new at hH0 g2
 unfold u7 at g0
 simp -implicitDefEqProofs [mY,Ev,vB,←hH0,g1]
 refine av (qC c hB fun H1 k1=> ?_)
 have e0:=(k1.get _ (by omega)).trans g0
 have e1:=(k1.get _ (by omega)).trans g1
 have e2:=(k1.get _ (by omega)).trans g2
 have e3:=(k1.get _ (by omega)).trans g3
 have n1:=k1.next
 have kk:=k0.trans k1
 have fin: ∀Y,H.le Y→∀(o1 o2:fK),H.le ((Y.set (H.next+2) o1).set (H.next+3) o2):=fun Y hY o1 o2=>(hY.set (by omega) _).set (by omega) _
 by_cases hv:bJ x n=false
 ·rw[if_pos (.inl hv)]at hK
  simp -implicitDefEqProofs [hv,e0,e2,e3]
  exact hK _ _ (fin _ kk _ _) (fun _=>rfl) (fun z=>by cases z)
 have hv':bJ x n=true:=by simpa using hv
 by_cases f0:fr<0
 ·rw[if_pos (.inr (.inl f0))]at hK
  simp -implicitDefEqProofs [hv',f0,e0,e2,e3]
  exact hK _ _ (fin _ kk _ _) (fun _=>rfl) (fun z=>by cases z)
 by_cases f1:1024≤fr
 ·rw[if_pos (.inr (.inr f1))]at hK
  simp -implicitDefEqProofs [hv',f0,f1,e0,e2,e3]
  exact hK _ _ (fin _ kk _ _) (fun _=>rfl) (fun z=>by cases z)
 rw[if_neg (by rintro(z|z|z);exact hv z;exact f0 z;exact f1 z)]at hK
 obtain⟨H2,hH2⟩: ∃X:aa,X=H1.alloc (.cells [.int .i64 x,.int .i64 n,.int .i64 P.ba,.int .i64 P.bn] false):=⟨_,rfl⟩
 have k2:H1.le H2:=by rw[hH2];exact H1.aj _
 have n2:H2.next=H1.next+1:=by rw[hH2];rfl
 have hl:qJ H2 2 (.slice (some ⟨H1.next,0,none⟩) 2 2) ([(x,n),(P.ba,P.bn)].map oZ):=by
  refine⟨_,2,rfl,fun _=>⟨H1.next,0,_,false,rfl,by omega,by rw[hH2,YV,if_pos rfl],fun i r hr=> ?_⟩⟩
  match i,hr with
  |0,hr=>simp[oZ]at hr;subst hr;exact⟨rfl,rfl,by simp⟩
  |1,hr=>simp[oZ]at hr;subst hr;exact⟨rfl,rfl,by simp⟩
 simp -implicitDefEqProofs [hv',f0,f1,e0,e1,←hH2]
 refine av (UU c hB h16 hl (by simp) fun H3 k3=> ?_)
 have n3:=k3.next
 obtain⟨m,hm⟩: ∃m,m=tq [(x,n),(P.ba,P.bn)]:=⟨_,rfl⟩
 rw[←hm]at hK ⊢
 obtain⟨H4,qN⟩: ∃X:aa,X=(H3.alloc (.cells [.int .i64 0,.int .i64 0] false)).set H3.next (.cells [.int .i64 m.1,.int .i64 m.2] false):=⟨_,rfl⟩
 have k4:H3.le H4:=by rw[qN];exact(H3.aj _).set (Nat.le_refl _) _
 have n4:H4.next=H3.next+1:=by rw[qN];rfl
 have g4:H4.get H3.next=some (.cells [.int .i64 m.1,.int .i64 m.2] false):=by rw[qN,YW,if_pos rfl]
 have k14:=(k2.trans k3).trans k4
 have i0:=(k14.get _ (by omega)).trans e0
 have i2:=(k14.get _ (by omega)).trans e2
 have i3:=(k14.get _ (by omega)).trans e3
 by_cases hf:2147483647≤m.1
 ·rw[if_pos hf]at hK
  simp -implicitDefEqProofs [vB,←qN,g4,hf,i0,i2,i3]
  exact hK _ _ (fin _ (kk.trans k14) _ _) (fun _=>rfl) (fun z=>by cases z)
 ·rw[if_neg hf]at hK
  simp -implicitDefEqProofs [vB,←qN,g4,hf,i0,i2,i3]
  refine av (SI c hB h16 fun H5 k5=> ?_)
  have n5:=k5.next
  obtain⟨nb,hnb⟩: ∃nb,nb=qx m.1 P.me:=⟨_,rfl⟩
  rw[←hnb]at hK ⊢
  obtain⟨H6,hH6⟩: ∃X:aa,X=(H5.alloc (.cells [.int .i64 0,.int .i64 0] false)).set H5.next (.cells [.int .i64 nb.1,.int .i64 nb.2] false):=⟨_,rfl⟩
  have k6:H5.le H6:=by rw[hH6];exact(H5.aj _).set (Nat.le_refl _) _
  have n6:H6.next=H5.next+1:=by rw[hH6];rfl
  have g6:H6.get H5.next=some (.cells [.int .i64 nb.1,.int .i64 nb.2] false):=by rw[hH6,YW,if_pos rfl]
  have k46:=k5.trans k6
  have j0:=(k46.get _ (by omega)).trans i0
  have j2:=(k46.get _ (by omega)).trans i2
  have j3:=(k46.get _ (by omega)).trans i3
  have q1: ¬ H5.next=H.next+2:=by omega
  simp -implicitDefEqProofs [vB,←hH6,g6,j0,j2,j3,q1]
  exact hK _ _ (fin _ ((kk.trans k14).trans k46) _ _) (fun z=>absurd rfl z) (fun _=>rfl)
include h19 in
theorem QX {P:DP}{a:Option Addr}{k cp:Nat}{s:ByteArray}(hn:P.next≤1024)(hn0:0≤P.next)(hK: ∀H',H.le H'→K (.tuple #[Ev (P.ax s).1 (.slice a k cp),vV (P.ax s).2.1,.int .i64 (P.ax s).2.2]) H'):
 c.C (c.F pE) [Ev P (.slice a k cp),.string s] H K:=by
 refine c.enter h19.Cj rfl ?_
 unfold DP.ax at hK
 obtain⟨H0,hH0⟩: ∃X:aa,X=(((H.alloc (u7 P (.slice a k cp))).alloc (u7 (DP.new 0 0) (.slice none 0 0))).alloc (.cells [.int .i64 0,.int .i64 0,.int .i64 0,.string ⟨#[]⟩] false)):=⟨_,rfl⟩
 have k0:H.le H0:=by rw[hH0];exact((H.aj _).alloc _).alloc _
 have n0:H0.next=H.next+3:=by rw[hH0];rfl
 have g0:H0.get H.next=some (u7 P (.slice a k cp)):=by rw[hH0];simp only[YV,YX];repeat (first|rw[if_pos trivial]|rw[if_pos (by omega)]|rw[if_neg (by omega)])
 have g1:H0.get (H.next+1)=some (u7 (DP.new 0 0) (.slice none 0 0)):=by rw[hH0];simp only[YV,YX];repeat (first|rw[if_pos trivial]|rw[if_pos (by omega)]|rw[if_neg (by omega)])
 have g2:H0.get (H.next+2)=some (.cells [.int .i64 0,.int .i64 0,.int .i64 0,.string ⟨#[]⟩] false):=by rw[hH0];simp only[YV,YX];repeat (first|rw[if_pos trivial]|rw[if_pos (by omega)]|rw[if_neg (by omega)])
 unfold u7 DP.new at hH0 g1
 unfold u7 at g0
 have hs:s.data.size=s.size:=rfl
 have fin: ∀Y,H.le Y→∀(o1 o2:fK),H.le ((Y.set (H.next+1) o1).set (H.next+2) o2):=fun Y hY o1 o2=>(hY.set (by omega) _).set (by omega) _
 by_cases h1:4096<s.size
 ·rw[if_pos h1]at hK
  have h1I:(4096:Int)<(s.size:Int):=by omega
  simp -implicitDefEqProofs [dQ,Ev,←hH0,hs,h1,h1I,g0,g1,g2]
  exact hK _ (fin _ k0 _ _)
 rw[if_neg h1]at hK
 have h1I: ¬ (4096:Int)<(s.size:Int):=by omega
 by_cases h2:1024≤P.next
 ·rw[if_pos h2]at hK
  simp -implicitDefEqProofs [dQ,Ev,←hH0,hs,h1,h1I,g0,g1,g2,h2]
  exact hK _ (fin _ k0 _ _)
 rw[if_neg h2]at hK
 cases h3:P.leads with
 |false=>
  rw[if_pos h3]at hK
  rw[h3]at g0 hH0
  simp -implicitDefEqProofs [dQ,Ev,h3,←hH0,hs,h1,h1I,g0,g1,g2,h2]
  have:=hK _ (fin _ k0 (u7 P (.slice a k cp)) (.cells [.int .i64 0,.int .i64 0,.int .i64 0,.string ⟨#[]⟩] false))
  simp only[Ev,h3,u7]at this
  exact this
 |true=>
  rw[if_neg (by rw[h3];simp)]at hK
  rw[h3]at g0 hH0
  have hw:IntKind.i64.wrap (P.next+1)=P.next+1:=wrap64 (by omega) (by omega)
  obtain⟨H1,hH1⟩: ∃X:aa,X=(H0.alloc (.cells [.int .i64 0,.int .i64 0,.int .i64 0,.string ⟨#[]⟩] false)).set (H.next+3) (.cells [.int .i64 P.next,.int .i64 P.ba,.int .i64 P.bn,.string s] false):=⟨_,rfl⟩
  have k1:H0.le H1:=by rw[hH1];exact(H0.aj _).set (by omega) _
  have e0:=(k1.get _ (by omega)).trans g0
  have e1:=(k1.get _ (by omega)).trans g1
  have e2:=(k1.get _ (by omega)).trans g2
  have z1: ¬ H.next+1+1=H.next:=by omega
  have z2: ¬ H.next=H.next+1+1:=by omega
  have ev:H1.get (H.next+3)=some (.cells [.int .i64 P.next,.int .i64 P.ba,.int .i64 P.bn,.string s] false):=by rw[hH1,YW,if_pos (by omega)]
  simp -implicitDefEqProofs [dQ,Ev,h3,←hH0,hs,h1,h1I,g0,g1,g2,h2,←hH1,n0,e0,e1,e2,ev,hw,z1,z2]
  have kq:=((k0.trans k1).set (i:=H.next) (Nat.le_refl _) (u7 {P with next:=P.next+1} (.slice a k cp)))
  have:=hK _ (fin _ kq (u7 {P with next:=P.next+1} (.slice a k cp)) (.cells [.int .i64 P.next,.int .i64 P.ba,.int .i64 P.bn,.string s] false))
  simp only[Ev,h3,u7]at this
  exact this
include hB h19 in
theorem Xe {P:DP}{a:Option Addr}{k cp:Nat}{x n:Int}(hK: ∀H',H.le H'→K (.tuple #[Ev (P.step x n).1 (.slice a k cp),.bool (P.step x n).2]) H'):
 c.C (c.F sO) [Ev P (.slice a k cp),vB x n] H K:=by
 refine c.enter h19.G5 rfl ?_
 unfold DP.step at hK
 obtain⟨H0,hH0⟩: ∃X:aa,X=(((H.alloc (u7 P (.slice a k cp))).alloc (.cells [.int .i64 x,.int .i64 n] false)).alloc (u7 (DP.new 0 0) (.slice none 0 0))):=⟨_,rfl⟩
 have k0:H.le H0:=by rw[hH0];exact((H.aj _).alloc _).alloc _
 have n0:H0.next=H.next+3:=by rw[hH0];rfl
 have g0:H0.get H.next=some (u7 P (.slice a k cp)):=by rw[hH0];simp only[YV,YX];repeat (first|rw[if_pos trivial]|rw[if_pos (by omega)]|rw[if_neg (by omega)])
 have g1:H0.get (H.next+1)=some (.cells [.int .i64 x,.int .i64 n] false):=by rw[hH0];simp only[YV,YX];repeat (first|rw[if_pos trivial]|rw[if_pos (by omega)]|rw[if_neg (by omega)])
 have g2:H0.get (H.next+2)=some (u7 (DP.new 0 0) (.slice none 0 0)):=by rw[hH0];simp only[YV,YX];repeat (first|rw[if_pos trivial]|rw[if_pos (by omega)]|rw[if_neg (by omega)])
 unfold u7 DP.new at hH0 g2
 unfold u7 at g0
 simp -implicitDefEqProofs [mZ,Ev,vB,←hH0,g1]
 refine av (qC c hB fun H1 k1=> ?_)
 have e0:=(k1.get _ (by omega)).trans g0
 have e1:=(k1.get _ (by omega)).trans g1
 have e2:=(k1.get _ (by omega)).trans g2
 have n1:=k1.next
 have kk:=k0.trans k1
 by_cases hv:bJ x n=false
 ·rw[if_pos (.inl hv)]at hK
  simp -implicitDefEqProofs [hv,e0,e2]
  exact hK _ (kk.set (by omega) _)
 have hv':bJ x n=true:=by simpa using hv
 simp -implicitDefEqProofs [hv',e0,e1]
 refine av (vW c hB fun H2 k2=> ?_)
 have i0:=(k2.get _ (by omega)).trans e0
 have i1:=(k2.get _ (by omega)).trans e1
 have i2:=(k2.get _ (by omega)).trans e2
 have kk2:=kk.trans k2
 by_cases hc:lX x n P.ba P.bn≤0
 ·rw[if_pos (.inr hc)]at hK
  simp -implicitDefEqProofs [hc,i0,i2]
  exact hK _ (kk2.set (by omega) _)
 ·rw[if_neg (by rintro(z|z);exact hv z;exact hc z)]at hK
  have z1: ¬ H.next+1+1=H.next:=by omega
  have z2: ¬ H.next=H.next+1+1:=by omega
  simp -implicitDefEqProofs [hc,i0,i1,i2,z1,z2]
  have kq:=((((kk2.set (i:=H.next) (Nat.le_refl _) (u7 {P with ba:=x,bn:=n} (.slice a k cp))).set (i:=H.next) (Nat.le_refl _) (u7 {P with ba:=x,bn:=n,asks:=false} (.slice a k cp))).set (i:=H.next) (Nat.le_refl _) (u7 {P with ba:=x,bn:=n,asks:=false,leads:=false} (.slice a k cp))).set (i:=H.next+2) (by omega) (u7 {P with ba:=x,bn:=n,asks:=false,leads:=false} (.slice a k cp)))
  exact hK _ kq
end
end
section
def aV (pa pn base:Int)(u:Value):Value:=.agg #[.int .i64 pa,.int .i64 pn,.int .i64 base,u]
theorem UW {H:aa}{B:Nat}{v:Value}{out:List ay}(g:Grow H B 4 v (out.map aG))(hB:B≤H.next)(hl:out.length≤100000)(x:ay):
 ∃v' H',aY H 4 40 v 1 (aG x)=some (v',H')∧Grow H' B 4 v' ((out++[x]).map aG)∧aa.keep B H H':=by
 obtain⟨v',H',e1,e2,e3⟩:=g.AJ (bytes:=40) (new:=aG x) hB (by omega) (by omega) (by rw[List.length_map];omega) (by rw[List.length_map];omega) rfl rfl
 exact⟨v',H',e1,by rw[List.map_append];exact e2,e3⟩
theorem MJ (H:aa)(x:ay):aZ (H.alloc (.cells (aG x) false)) 4 1 (.slice (some ⟨H.next,0,none⟩) 1 1)=some (aG x):=by
 simp[aZ,aa.aP,YV,aG]
theorem Grow.fresh {H:aa}{B:Nat}{v:Value}{rows:List (List Value)}(h:Grow H B 4 v rows):uj B v:=by
 intro b o m cc e
 rcases h with⟨_,rfl⟩|⟨_,blk,q1,_,rfl,_⟩
 ·simp at e
 ·simp only[Value.slice.injEq,Option.some.injEq,Addr.mk.injEq]at e
  omega
theorem SL (L:List ay)(s:Int)(x:ay):fromV (L++[x]) s=fromV L s++(if s≤x.slot then [x]else []):=by
 unfold fromV
 rw[List.filter_append]
 congr 1
 by_cases h:s≤x.slot <;> simp[h]
section
variable (c:Ctx) (hR:eF c) (hB:dw c) {H:aa} {K:Value→aa→Prop}
include hR in
theorem QY {L:List ay}{u:Value}{pa pn base s:Int}(hu:qJ H 4 u (L.map aG))(hl:L.length≤100000)(hK: ∀v H',H.le H'→Grow H' H.next 4 v ((fromV L s).map aG)→K v H'):
 c.C (c.F Ch) [aV pa pn base u,.int .i64 s] H K:=by
 refine c.enter hR.Fx rfl ?_
 have hu':=hu
 obtain⟨a,cap,rfl,_⟩:=hu
 simp only[List.length_map]at hu' ⊢
 obtain⟨HA,Kt⟩: ∃X:aa,X=H.alloc (.cells [.int .i64 pa,.int .i64 pn,.int .i64 base,.slice a L.length cap] false):=⟨_,rfl⟩
 have kA:H.le HA:=by rw[Kt];exact H.aj _
 have nA:HA.next=H.next+1:=by rw[Kt];rfl
 have gA:HA.get H.next=some (.cells [.int .i64 pa,.int .i64 pn,.int .i64 base,.slice a L.length cap] false):=by rw[Kt,YV,if_pos rfl]
 simp -implicitDefEqProofs [mo,aV,←Kt]
 refine aS c.mono (fun k T H'=> ∃i:Nat,i≤L.length∧k=L.length-i∧T 1 = .int .i64 s∧T 2 = .pointer (some ⟨H.next,0,none⟩)∧T 6 = .int .i64 i∧HA.le H'∧Grow H' HA.next 4 (T 5) ((fromV (L.take i) s).map aG)) L.length ?_ ?_
 ·refine⟨0,by omega,rfl,?_⟩
  simp -implicitDefEqProofs []
  exact⟨aa.le_refl _,.inl ⟨by simp[fromV],rfl⟩⟩
 ·rintro k T H' ⟨i,hi,rfl,t1,t2,t6,hle,hgr⟩
  have gx:=(hle.get H.next (by omega)).trans gA
  have nn:=hle.next
  by_cases hil:i<L.length
  ·have qB:(i:Int)<(L.length:Int):=by omega
   obtain⟨x,hx⟩: ∃x,x=L[i]:=⟨_,rfl⟩
   have hxe:L[i]? =some x:=by rw[hx,List.getElem?_eq_getElem hil]
   obtain⟨b,o,cp,cs,ro,e1,hb,hget,_,hrow,hbd⟩:=hu'.at (i:=i) (r:=aG x) (by simp[hxe])
   simp only[Value.slice.injEq]at e1
   obtain⟨rfl,-,rfl⟩:=e1
   have r0:=uh hrow 0 (by omega)
   simp only[aG]at hrow
   simp only[aG,List.getElem?_cons_zero,Nat.add_zero]at r0
   have zA:=((kA.trans hle).get b hb).trans hget
   have hw:IntKind.i64.wrap ((i:Int)+1)=(i:Int)+1:=wrap64 (by omega) (by omega)
   have htk:L.take (i+1)=L.take i++[x]:=by rw[List.take_add_one,hxe];rfl
   have hsn:=SL (L.take i) s x
   rw[←htk]at hsn
   have hfl:(fromV (L.take i) s).length≤100000:=by
    have:=List.length_filter_le (fun v=>decide (s≤v.slot)) (L.take i)
    rw[List.length_take]at this
    unfold fromV;omega
   by_cases hs:s≤x.slot
   ·rw[if_pos hs]at hsn
    have kC:=H'.aj (.cells (aG x) false)
    obtain⟨v4,H4,e4,El,k4⟩:=UW (hgr.le kC) (by simp only[YX];omega) hfl x
    have f4:=MJ H' x
    rw[←hsn]at El
    simp only[aG]at f4 e4 k4
    simp -implicitDefEqProofs [t1,t2,t6,gx,hil,qB,zA,r0,hs,hrow,hbd,bG,f4,e4,hw]
    exact⟨L.length-(i+1),by omega,i+1,by omega,rfl,by simp,((hle.trans (H'.aj _)).keep (Nat.le_refl _) |>.trans k4).le (Nat.le_refl _),El⟩
   ·rw[if_neg hs,List.append_nil]at hsn
    simp -implicitDefEqProofs [t1,t2,t6,gx,hil,qB,zA,r0,hs,hw]
    exact⟨L.length-(i+1),by omega,i+1,by omega,rfl,by simp,hle,by rw[hsn];exact hgr⟩
  ·have qB: ¬ (i:Int)<(L.length:Int):=by omega
   rw[List.take_of_length_le (by omega)]at hgr
   simp -implicitDefEqProofs [t1,t2,t6,gx,hil,qB]
   exact hK _ _ (kA.trans hle) (hgr.weak (by omega))
include hR hB in
theorem Nv {A:Acc}{u:Value}{a n:Int}(hK: ∀H',H.le H'→K (.bool (A.may a n)) H'):c.C (c.F Fw) [aV A.pa A.pn A.base u,vB a n] H K:=by
 refine c.enter hR.IZ rfl ?_
 unfold Acc.may at hK
 obtain⟨HA,Kt⟩: ∃X:aa,X=(H.alloc (.cells [.int .i64 A.pa,.int .i64 A.pn,.int .i64 A.base,u] false)).alloc (.cells [.int .i64 a,.int .i64 n] false):=⟨_,rfl⟩
 have kA:H.le HA:=by rw[Kt];exact(H.aj _).alloc _
 have nA:HA.next=H.next+1+1:=by rw[Kt];rfl
 have g1:HA.get H.next=some (.cells [.int .i64 A.pa,.int .i64 A.pn,.int .i64 A.base,u] false):=by rw[Kt,YV,if_neg (by simp only[YX];omega),YV,if_pos rfl]
 have g2:HA.get (H.next+1)=some (.cells [.int .i64 a,.int .i64 n] false):=by rw[Kt,YV,if_pos (by simp only[YX])]
 simp -implicitDefEqProofs [oG,aV,vB,←Kt,g2]
 refine av (qC c hB (a:=a) (n:=n) fun H1 k1=> ?_)
 have g1':=(k1.get H.next (by omega)).trans g1
 have g2':=(k1.get (H.next+1) (by omega)).trans g2
 cases hv:bJ a n with
 |false=>
  rw[hv]at hK
  simp -implicitDefEqProofs []
  exact hK _ (kA.trans k1)
 |true=>
  rw[hv]at hK
  simp -implicitDefEqProofs [g1',g2']
  refine av (vW c hB (a:=a) (n:=n) (b:=A.pa) (m:=A.pn) fun H2 k2=> ?_)
  simp -implicitDefEqProofs []
  exact hK _ ((kA.trans k1).trans k2)
end
def Blk (n m:Nat)(v:Value):Prop:=∀b o l c,v = .slice (some ⟨b,o,none⟩) l c→n≤b∧b<m
theorem Grow.blk {H:aa}{B:Nat}{v:Value}{rows:List (List Value)}(h:Grow H B 4 v rows):Blk B H.next v:=by
 intro b o m cc e
 rcases h with⟨_,rfl⟩|⟨_,blk,q1,q2,rfl,_⟩
 ·simp at e
 ·simp only[Value.slice.injEq,Option.some.injEq,Addr.mk.injEq]at e
  omega
theorem Blk.weak {n n' m m':Nat}{v:Value}(h:Blk n m v)(h1:n'≤n)(h2:m≤m'):Blk n' m' v:=fun b o l c e=>by have:=h b o l c e;omega
def pG (v:ay)(l:List ay):Bool:=l.any fun x=>decide (v.slot≤x.slot)
def FO (v:ay)(l:List ay):List ay:=if pG v l then xG l v else l
theorem xR (v:ay)(l:List ay)(x:ay):pG v (l++[x])=(pG v l||decide (v.slot≤x.slot)):=by simp[pG]
theorem IA {v:ay}{l:List ay}(h:pG v l=false):(l.filter fun x=>decide (x.slot<v.slot))=l∧(l.filter fun x=>decide (v.slot<x.slot))=[]:=by
 unfold pG at h
 rw[List.any_eq_false]at h
 refine⟨List.filter_eq_self.2 fun x hx=> ?_,List.filter_eq_nil_iff.2 fun x hx=> ?_⟩
 ·have:=h x hx;simp at this ⊢;omega
 ·have:=h x hx;simp at this ⊢;omega
theorem SN {v:ay}{l:List ay}{x:ay}(hs:Sorted (l++[x]))(h:pG v l=true):v.slot<x.slot∧FO v (l++[x])=FO v l++[x]:=by
 have h':=h
 unfold pG at h
 rw[List.any_eq_true]at h
 obtain⟨y,hy,hle⟩:=h
 have hyx:=(List.pairwise_append.1 hs).2.2 y hy x (by simp)
 have hvx:v.slot<x.slot:=by simp at hle;omega
 refine⟨hvx,?_⟩
 have e:pG v (l++[x])=true:=by rw[xR,h'];rfl
 unfold FO
 rw[if_pos e,if_pos h']
 unfold xG
 rw[List.filter_append,List.filter_append]
 have e1:([x].filter fun y=>decide (y.slot<v.slot))=[]:=by simp;omega
 have e2:([x].filter fun y=>decide (v.slot<y.slot))=[x]:=by simp[hvx]
 rw[e1,e2];simp
theorem QZ {v:ay}{l:List ay}{x:ay}(h:pG v l=false):FO v (l++[x])=if x.slot<v.slot then l++[x]else if x.slot=v.slot then l++[v]else l++[v]++[x]:=by
 obtain⟨f1,f2⟩:=IA h
 unfold FO
 rw[xR,h,Bool.false_or]
 unfold xG
 rw[List.filter_append,List.filter_append,f1,f2]
 by_cases h1:x.slot<v.slot
 ·rw[if_pos h1,if_neg (by simp;omega)]
 ·rw[if_neg h1,if_pos (by simp;omega)]
  have e1:([x].filter fun y=>decide (y.slot<v.slot))=[]:=by simp;omega
  rw[e1]
  by_cases h2:x.slot=v.slot
  ·rw[if_pos h2]
   have e2:([x].filter fun y=>decide (v.slot<y.slot))=[]:=by simp;omega
   rw[e2];simp
  ·rw[if_neg h2]
   have e2:([x].filter fun y=>decide (v.slot<y.slot))=[x]:=by simp;omega
   rw[e2];simp
theorem Q0 {v:ay}{l:List ay}(h:pG v l=false):FO v l=l∧xG l v=l++[v]:=by
 obtain⟨f1,f2⟩:=IA h
 refine⟨by rw[FO,h];simp,by rw[xG,f1,f2]⟩
theorem Xf (v:ay)(l:List ay):(FO v l).length≤l.length+1:=by
 unfold FO
 split
 ·exact Wu l v
 ·omega
section
variable (c:Ctx) (hR:eF c) (hB:dw c) {H:aa} {K:Value→aa→Prop}
include hR hB in
theorem Dh {A:Acc}{u:Value}{a n s:Int}(hu:qZ H 4 u (A.L.map aG))(hl:A.L.length≤100000)
 (hK: ∀w H',H.le H'→qZ H' 4 w ((A.promise a n s).2.1.map aG)→Blk H.next H'.next w→K (.tuple #[aV (A.promise a n s).1.pa (A.promise a n s).1.pn (A.promise a n s).1.base u,w,.bool (A.promise a n s).2.2]) H'):
 c.C (c.F yG) [aV A.pa A.pn A.base u,vB a n,.int .i64 s] H K:=by
 refine c.enter hR.Ci rfl ?_
 unfold Acc.promise at hK
 have hu2:=hu
 obtain⟨au,cu,rfl⟩:=hu.len
 rw[List.length_map]at hu2 hK ⊢
 obtain⟨HA,Kt⟩: ∃X:aa,X=((H.alloc (.cells [.int .i64 A.pa,.int .i64 A.pn,.int .i64 A.base,.slice au A.L.length cu] false)).alloc (.cells [.int .i64 a,.int .i64 n] false)).alloc (.cells [.int .i64 0,.int .i64 0,.int .i64 0,.slice none 0 0] false):=⟨_,rfl⟩
 have kA:H.le HA:=by rw[Kt];exact((H.aj _).alloc _).alloc _
 have nA:HA.next=H.next+1+1+1:=by rw[Kt];rfl
 have g1:HA.get H.next=some (.cells [.int .i64 A.pa,.int .i64 A.pn,.int .i64 A.base,.slice au A.L.length cu] false):=by rw[Kt,YV,if_neg (by simp only[YX];omega),YV,if_neg (by simp only[YX];omega),YV,if_pos rfl]
 have g2:HA.get (H.next+1)=some (.cells [.int .i64 a,.int .i64 n] false):=by rw[Kt,YV,if_neg (by simp only[YX];omega),YV,if_pos (by simp only[YX])]
 have g3:HA.get (H.next+1+1)=some (.cells [.int .i64 0,.int .i64 0,.int .i64 0,.slice none 0 0] false):=by rw[Kt,YV,if_pos (by simp only[YX])]
 simp -implicitDefEqProofs [kr,aV,vB,←Kt,g1,g2]
 refine av (Nv c hR hB (A:=A) (u:=.slice au A.L.length cu) (a:=a) (n:=n) fun H1 k1=> ?_)
 have n1:=k1.next
 have g1':=(k1.get H.next (by omega)).trans g1
 have g2':=(k1.get (H.next+1) (by omega)).trans g2
 have g3':=(k1.get (H.next+1+1) (by omega)).trans g3
 have nI:=kA.trans k1
 cases hm:A.may a n with
 |false=>
  rw[if_pos (.inl hm)]at hK
  simp -implicitDefEqProofs [g1',g3']
  exact hK _ _ (nI.set (by omega) _) (qZ.nil _ 4) (fun b o l c e=>by simp at e)
 |true=>
  by_cases hs:s<A.base
  ·rw[if_pos (.inr hs)]at hK
   simp -implicitDefEqProofs [g1',g3',hs]
   exact hK _ _ (nI.set (by omega) _) (qZ.nil _ 4) (fun b o l c e=>by simp at e)
  ·rw[if_neg (by rw[hm];simp[hs])]at hK
   obtain⟨H2,hH2⟩: ∃X:aa,X=H1.set H.next (.cells [.int .i64 a,.int .i64 n,.int .i64 A.base,.slice au A.L.length cu] false):=⟨_,rfl⟩
   have k2:H.le H2:=by rw[hH2];exact nI.set (Nat.le_refl _) _
   have n2:H2.next=H1.next:=by rw[hH2];rfl
   have g22:H2.get H.next=some (.cells [.int .i64 a,.int .i64 n,.int .i64 A.base,.slice au A.L.length cu] false):=by rw[hH2,YW,if_pos rfl]
   have g23:H2.get (H.next+1+1)=some (.cells [.int .i64 0,.int .i64 0,.int .i64 0,.slice none 0 0] false):=by rw[hH2,YW,if_neg (by omega)];exact g3'
   simp -implicitDefEqProofs [g1',g2',hs,←hH2,g22]
   refine aI c.mono (QY c hR (L:=A.L) (pa:=a) (pn:=n) (base:=A.base) (s:=s) (hu2.le k2).1 hl fun w H3 k3 IB=> ?_)
   have g32:=(k3.get H.next (by omega)).trans g22
   have g33:=(k3.get (H.next+1+1) (by omega)).trans g23
   have Zv:=IB
   obtain⟨aw,cw,rfl⟩:=IB.len
   rw[List.length_map]at Zv
   simp -implicitDefEqProofs [g32,g33,aQ,List.length_map]
   have:=hK (.slice aw (fromV A.L s).length cw) _ ((k2.trans k3).set (i:=H.next+1+1) (by omega) (.cells [.int .i64 a,.int .i64 n,.int .i64 A.base,.slice au A.L.length cu] false)) (Zv.Rx.upd (S:=[H.next+1+1]) (fun b o m cc e hm=>by
    have:=Zv.fresh b o m cc e
    simp only[List.mem_singleton]at hm
    omega) ((aa.iE _ _).set (.inr (by simp)) _)) (Zv.blk.weak (by omega) (by simp only[YY];omega))
   exact this
end
section
variable (c:Ctx) (hR:eF c) (hB:dw c) {H:aa} {K:Value→aa→Prop}
include hR hB in
theorem OW {A:Acc}{u:Value}{v:ay}(hs:Sorted A.L)(hu:qZ H 4 u (A.L.map aG))(hl:A.L.length≤50000)
 (hK: ∀u' H',H.le H'→qZ H' 4 u' ((A.accept v).1.L.map aG)→(u'=u∨Blk H.next H'.next u')→K (.tuple #[aV (A.accept v).1.pa (A.accept v).1.pn (A.accept v).1.base u',.bool (A.accept v).2]) H'):
 c.C (c.F zU) [aV A.pa A.pn A.base u,vV v] H K:=by
 refine c.enter hR.D5 rfl ?_
 have hu2:=hu
 obtain⟨au,cu,rfl⟩:=hu.len
 rw[List.length_map]at hu2 hK ⊢
 unfold Acc.accept at hK
 obtain⟨HA,Kt⟩: ∃X:aa,X=((H.alloc (.cells [.int .i64 A.pa,.int .i64 A.pn,.int .i64 A.base,.slice au A.L.length cu] false)).alloc (.cells [.int .i64 v.slot,.int .i64 v.a,.int .i64 v.n,.string v.val] false)).alloc (.cells [.int .i64 0,.int .i64 0,.int .i64 0,.slice none 0 0] false):=⟨_,rfl⟩
 have kA:H.le HA:=by rw[Kt];exact((H.aj _).alloc _).alloc _
 have nA:HA.next=H.next+1+1+1:=by rw[Kt];rfl
 have g1:HA.get H.next=some (.cells [.int .i64 A.pa,.int .i64 A.pn,.int .i64 A.base,.slice au A.L.length cu] false):=by rw[Kt,YV,if_neg (by simp only[YX];omega),YV,if_neg (by simp only[YX];omega),YV,if_pos rfl]
 have g2:HA.get (H.next+1)=some (.cells [.int .i64 v.slot,.int .i64 v.a,.int .i64 v.n,.string v.val] false):=by rw[Kt,YV,if_neg (by simp only[YX];omega),YV,if_pos (by simp only[YX])]
 have g3:HA.get (H.next+1+1)=some (.cells [.int .i64 0,.int .i64 0,.int .i64 0,.slice none 0 0] false):=by rw[Kt,YV,if_pos (by simp only[YX])]
 simp -implicitDefEqProofs [lG,aV,vV,←Kt,g1,g2]
 refine av (Nv c hR hB (A:=A) (u:=.slice au A.L.length cu) (a:=v.a) (n:=v.n) fun H1 k1=> ?_)
 have n1:=k1.next
 have g1':=(k1.get H.next (by omega)).trans g1
 have g2':=(k1.get (H.next+1) (by omega)).trans g2
 have g3':=(k1.get (H.next+1+1) (by omega)).trans g3
 have nI:=kA.trans k1
 have bad: ∀x,qZ (H1.set (H.next+1+1) x) 4 (.slice au A.L.length cu) (A.L.map aG)∧H.le (H1.set (H.next+1+1) x):=fun x=>⟨hu2.le (nI.set (by omega) _),nI.set (by omega) _⟩
 cases hm:A.may v.a v.n with
 |false=>
  rw[if_pos (.inl hm)]at hK
  simp -implicitDefEqProofs [g1',g2',g3']
  exact hK _ _ (bad _).2 (bad _).1 (.inl rfl)
 |true=>
  by_cases c1:v.slot<A.base
  ·rw[if_pos (.inr (.inl c1))]at hK
   simp -implicitDefEqProofs [g1',g2',g3',c1]
   exact hK _ _ (bad _).2 (bad _).1 (.inl rfl)
  ·by_cases c2:1024≤v.slot
   ·rw[if_pos (.inr (.inr (.inl c2)))]at hK
    simp -implicitDefEqProofs [g1',g2',g3',c1,c2]
    exact hK _ _ (bad _).2 (bad _).1 (.inl rfl)
   ·by_cases c3:(4096:Int)<v.val.data.toList.length
    ·rw[if_pos (.inr (.inr (.inr c3)))]at hK
     have c3':(4096:Int)<(v.val.size:Int):=c3
     simp -implicitDefEqProofs [g1',g2',g3',c1,c2,c3']
     exact hK _ _ (bad _).2 (bad _).1 (.inl rfl)
    ·rw[if_neg (by rw[hm];simp only[Bool.true_eq_false,false_or,not_or];exact⟨c1,c2,c3⟩)]at hK
     have c3': ¬ (4096:Int)<(v.val.size:Int):=c3
     obtain⟨H2,hH2⟩: ∃X:aa,X=H1.set H.next (.cells [.int .i64 v.a,.int .i64 v.n,.int .i64 A.base,.slice au A.L.length cu] false):=⟨_,rfl⟩
     have k2:H.le H2:=by rw[hH2];exact nI.set (Nat.le_refl _) _
     have n2:H2.next=H1.next:=by rw[hH2];rfl
     have g22:H2.get H.next=some (.cells [.int .i64 v.a,.int .i64 v.n,.int .i64 A.base,.slice au A.L.length cu] false):=by rw[hH2,YW,if_pos rfl]
     have g2v:H2.get (H.next+1)=some (.cells [.int .i64 v.slot,.int .i64 v.a,.int .i64 v.n,.string v.val] false):=by rw[hH2,YW,if_neg (by omega)];exact g2'
     have g23:H2.get (H.next+1+1)=some (.cells [.int .i64 0,.int .i64 0,.int .i64 0,.slice none 0 0] false):=by rw[hH2,YW,if_neg (by omega)];exact g3'
     simp -implicitDefEqProofs [g1',g2',c1,c2,c3',←hH2]
     refine aS c.mono (fun k T H'=> ∃i:Nat,i≤A.L.length∧k=A.L.length-i∧T 2 = .pointer (some ⟨H.next,0,none⟩)∧T 3 = .pointer (some ⟨H.next+1,0,none⟩)∧T 4 = .pointer (some ⟨H.next+1+1,0,none⟩)∧T 7 = .bool (pG v (A.L.take i))∧T 8 = .int .i64 i∧H2.le H'∧Grow H' H2.next 4 (T 6) ((FO v (A.L.take i)).map aG)) A.L.length ?_ ?_
     ·refine⟨0,by omega,rfl,?_⟩
      simp -implicitDefEqProofs []
      exact⟨by simp[pG],aa.le_refl _,.inl ⟨by simp[FO,pG],rfl⟩⟩
     ·rintro k T H' ⟨i,hi,rfl,t2,t3,t4,t7,t8,hle,hgr⟩
      have gx:=(hle.get H.next (by omega)).trans g22
      have gv:=(hle.get (H.next+1) (by omega)).trans g2v
      have nn:=hle.next
      have hal:(FO v (A.L.take i)).length≤50001:=by
       have:=Xf v (A.L.take i)
       rw[List.length_take]at this;omega
      by_cases hil:i<A.L.length
      ·have qB:(i:Int)<(A.L.length:Int):=by omega
       obtain⟨x,hx⟩: ∃x,x=A.L[i]:=⟨_,rfl⟩
       have hxe:A.L[i]? =some x:=by rw[hx,List.getElem?_eq_getElem hil]
       obtain⟨b,o,cp,cs,ro,e1,hb,hget,_,hrow,hbd⟩:=hu2.1.at (i:=i) (r:=aG x) (by simp[hxe])
       rw[List.length_map]at e1
       simp only[Value.slice.injEq]at e1
       obtain⟨rfl,-,rfl⟩:=e1
       have r0:=uh hrow 0 (by omega)
       simp only[aG]at hrow
       simp only[aG,List.getElem?_cons_zero,Nat.add_zero]at r0
       have hw:IntKind.i64.wrap ((i:Int)+1)=(i:Int)+1:=wrap64 (by omega) (by omega)
       have htk:A.L.take (i+1)=A.L.take i++[x]:=by rw[List.take_add_one,hxe];rfl
       have hsn:Sorted (A.L.take i++[x]):=by rw[←htk];exact hs.sublist (List.take_sublist _ _)
       have zA:=((k2.trans hle).get b hb).trans hget
       have kE: ∀X:aa,aa.keep H2.next H' X→H2.le X:=fun X kX=>((hle.keep (Nat.le_refl _)).trans kX).le (Nat.le_refl _)
       cases hf:pG v (A.L.take i)with
       |true=>
        rw[hf]at t7
        obtain⟨hvx,hac⟩:=SN hsn hf
        have hne: ¬ x.slot=v.slot:=by omega
        have hf2:pG v (A.L.take (i+1))=true:=by rw[htk,xR,hf];rfl
        have kC:=H'.aj (.cells (aG x) false)
        obtain⟨v4,H4,e4,El,k4⟩:=UW (hgr.le kC) (by simp only[YX];omega) (by omega) x
        have f4:=MJ H' x
        rw[←hac,←htk]at El
        simp only[aG]at f4 e4 k4
        simp -implicitDefEqProofs [t2,t3,t4,t7,t8,gx,gv,hil,qB,zA,r0,hne,hrow,hbd,bG,f4,e4,hw]
        exact⟨A.L.length-(i+1),by omega,i+1,by omega,rfl,by rw[hf2],by simp,kE _ (((H'.aj _).keep (by omega)).trans k4),El⟩
       |false=>
        rw[hf]at t7
        have hac:=QZ (x:=x) hf
        rw[←htk]at hac
        have hnf:=(Q0 hf).1
        rw[hnf]at hgr hal
        have hf2:pG v (A.L.take (i+1))=decide (v.slot≤x.slot):=by rw[htk,xR,hf];rfl
        by_cases h1:x.slot<v.slot
        ·have h1': ¬ v.slot≤x.slot:=by omega
         have hne: ¬ x.slot=v.slot:=by omega
         rw[if_pos h1]at hac
         rw[decide_eq_false h1']at hf2
         have kC:=H'.aj (.cells (aG x) false)
         obtain⟨v4,H4,e4,El,k4⟩:=UW (hgr.le kC) (by simp only[YX];omega) (by omega) x
         have f4:=MJ H' x
         rw[←htk,←hac]at El
         simp only[aG]at f4 e4 k4
         simp -implicitDefEqProofs [t2,t3,t4,t7,t8,gx,gv,hil,qB,zA,r0,h1',hne,hrow,hbd,bG,f4,e4,hw]
         exact⟨A.L.length-(i+1),by omega,i+1,by omega,rfl,by rw[hf2],by simp,kE _ (((H'.aj _).keep (by omega)).trans k4),El⟩
        ·have h1':v.slot≤x.slot:=by omega
         rw[if_neg h1]at hac
         rw[decide_eq_true h1']at hf2
         have kC:=H'.aj (.cells (aG v) false)
         obtain⟨v4,H4,e4,El,k4⟩:=UW (hgr.le kC) (by simp only[YX];omega) (by omega) v
         have f4:=MJ H' v
         have XI:=kE _ (((H'.aj _).keep (by omega)).trans k4)
         have gx4:=(XI.get H.next (by omega)).trans g22
         have gv4:=(XI.get (H.next+1) (by omega)).trans g2v
         have qaa:=((k2.trans XI).get b hb).trans hget
         by_cases h2:x.slot=v.slot
         ·rw[if_pos h2]at hac
          rw[←hac]at El
          simp only[aG]at f4 e4 k4
          rw[h2]at r0
          simp -implicitDefEqProofs [t2,t3,t4,t7,t8,gx,gv,hil,qB,zA,r0,h1',bG,f4,e4,gx4,gv4,qaa,hw]
          exact⟨A.L.length-(i+1),by omega,i+1,by omega,rfl,by rw[hf2],by simp,XI,El⟩
         ·rw[if_neg h2]at hac
          have kC2:=H4.aj (.cells (aG x) false)
          have n4:=XI.next
          obtain⟨v5,H5,e5,MC,k5⟩:=UW (El.le kC2) (by simp only[YX];omega) (by simp;omega) x
          have f5:=MJ H4 x
          rw[←hac]at MC
          simp only[aG]at f4 e4 f5 e5 k4 k5
          simp -implicitDefEqProofs [t2,t3,t4,t7,t8,gx,gv,hil,qB,zA,r0,h1',bG,f4,e4,gx4,gv4,qaa,h2,hrow,hbd,f5,e5,hw]
          exact⟨A.L.length-(i+1),by omega,i+1,by omega,rfl,by rw[hf2],by simp,((XI.trans (H4.aj _)).keep (Nat.le_refl _) |>.trans k5).le (Nat.le_refl _),MC⟩
      ·have qB: ¬ (i:Int)<(A.L.length:Int):=by omega
       rw[List.take_of_length_le (by omega)]at hgr t7 hal
       have g3f:=(hle.get (H.next+1+1) (by omega)).trans g23
       have fin: ∀(w:Value) (X:aa),H2.le X→Grow X H2.next 4 w ((xG A.L v).map aG)→∀x y,K (.tuple #[aV v.a v.n A.base w,.bool true]) ((X.set H.next x).set (H.next+1+1) y):=by
        intro w X kX gX x y
        have kkX:=k2.trans kX
        have nX:=kX.next
        refine hK w _ ((kkX.set (Nat.le_refl _) _).set (by omega) _) (gX.Rx.upd (S:=[H.next,H.next+1+1]) (fun b o m cc e hm=>by
         have:=gX.fresh b o m cc e
         simp only[List.mem_cons,List.not_mem_nil,or_false]at hm
         omega) (((aa.iE _ _).set (.inr (by simp)) _).set (.inr (by simp)) _)) (.inr (gX.blk.weak (by omega) (by simp only[YY];omega)))
       have hne1: ¬ H.next+1+1=H.next:=by omega
       cases hf:pG v A.L with
       |true=>
        rw[hf]at t7
        have e0:FO v A.L=xG A.L v:=by rw[FO,hf];rfl
        rw[e0]at hgr
        have Zw:=hgr
        obtain⟨aw,cw,t6⟩:=hgr.len
        rw[List.length_map]at t6
        rw[t6]at Zw
        simp -implicitDefEqProofs [t2,t3,t4,t6,t7,t8,gx,gv,hil,qB,g3f,hne1]
        exact fin _ _ hle Zw _ _
       |false=>
        rw[hf]at t7
        obtain⟨e0,e1⟩:=Q0 hf
        rw[e0]at hgr hal
        have kC:=H'.aj (.cells (aG v) false)
        obtain⟨v4,H4,e4,El,k4⟩:=UW (hgr.le kC) (by simp only[YX];omega) (by omega) v
        have f4:=MJ H' v
        rw[←e1]at El
        have XI:H2.le H4:=((hle.keep (Nat.le_refl _)).trans (((H'.aj _).keep (by omega)).trans k4)).le (Nat.le_refl _)
        have gx4:=(XI.get H.next (by omega)).trans g22
        have qcl:=(XI.get (H.next+1+1) (by omega)).trans g23
        have SQ:=El
        obtain⟨aw,cw,rfl⟩:=El.len
        rw[List.length_map]at SQ
        simp only[aG]at f4 e4
        simp -implicitDefEqProofs [t2,t3,t4,t7,t8,gx,gv,hil,qB,bG,f4,e4,gx4,qcl,hne1]
        exact fin _ _ XI SQ _ _
end
end
end
end Go.Proofs.YtpbbjfighohokaaGreatI
