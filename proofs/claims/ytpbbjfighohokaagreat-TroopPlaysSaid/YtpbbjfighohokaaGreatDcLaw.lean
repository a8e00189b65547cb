/- TroopPlays: both play alike. -/
import Derived.Test.YtpbbjfighohokaaGreatDcT
import Derived.Test.YtpbbjfighohokaaGreatTroM
import Derived.Test.YtpbbjfighohokaaGreatBalC
namespace Go.Proofs.YtpbbjfighohokaaGreatI
open Go
set_option linter.unusedSimpArgs false
set_option linter.unusedVariables false
section
attribute [local simp] J0 J1 J2 J3 J4 J5 J6 J7 J8 J9 Ja Jb Jc Jd Je Jf Jg Jh Ji Jj Jk Jl Jm Jn Jo Jp Jq Jr Js Jt Ju Jv Jw Jx Jy Jz JA JB JC JD JE JF JG JH JI JJ JK JL JM JN JO JP JQ JR JS aQ bZ.kind JT JU JV JW JX JY JZ Y0 Y1 Y2 Y3 Y4 Y5 Y6 Y7 Y8 Y9 Ya Yb Yc Yd Ye Yf Yg Yh Yi Yj Yk Yl Ym Yn Yo Yp Yq jq Yr Ys Yt Yu Yv Yw Yx Yy dZ bA bE Yz YA YB YC YD YE eO YF YG YH YI YJ YK YL YM YN YO YP YQ YR YS YT YU nP bK jR nG bu putAt aa.ah aa.aP aa.aK YV YW YX YY YZ B0 B1 B2 B3 B4 B5 B6 B7 B8 B9 Ba Bb Bc Bd Be Bf Bg Bh Bi Bj Bk Bl Bm Bn Bo Bp
section
def PlI (n:Int)(t xb:Nat)(g:FuncId)(H:aa)(i:Nat)(H':aa):Prop:=
 ∃(w:Nat→Nat) (S:Tp) (X:DT) (D:Nat→Prop) (vl vw:Value),H.le H'∧(∀b,w b≠0→H.next≤b)∧xP w H' t g S∧S.ok n∧RS X S∧FV i X∧H'.get xb=some (.cells [vl,vw] false)∧(w xb=0∧H.next≤xb∧xb<H'.next)∧iw D H' X vl vw∧∀b,D b→w b=0∧H.next≤b∧b<H'.next∧b≠xb
section
variable (c:Ctx) (hc:jm c) (hNd:qV c) (hL:vU c) (hLZ:HV c) (mM:dw c) (hQ:bN c) (h16:dS c) (En:eF c) (h19:dU c) (h20:eG c) (h21:fM c) (h22:mH c) (hR:Fh c) {H:aa} {K:Value→aa→Prop}
include hc hNd hL hLZ mM hQ h16 En h19 h20 h21 h22 hR in
theorem Tc (hW: ∀H K,(∀H',K (.bool true) H')→c.C (c.F l9) [] H K){n:Int}{v:Value}{l:List yg}(hv:qJ H 4 v (l.map EU))(hK: ∀H',K (.bool true) H'):
 c.C (c.F uP) [.int .i64 n,v] H K:=by
 refine c.enter hLZ.xW rfl ?_
 obtain⟨va,vc,XH⟩: ∃a cap,v = .slice a l.length cap:=by obtain⟨a,cap,e,_⟩:=hv;rw[List.length_map]at e;exact⟨a,cap,e⟩
 simp -implicitDefEqProofs [iZ]
 refine av (qaP c hL hv ?_ fun qcO htx=> ?_)
 ·simp -implicitDefEqProofs []
  refine av (hW _ _ fun H'=> ?_)
  simp -implicitDefEqProofs []
  exact hK _
 ·simp -implicitDefEqProofs []
  refine av (OP c hc hNd (fun hq H1 k1=> ?_) fun hq t w0 H1 k1 hw0 i1=> ?_)
  ·simp -implicitDefEqProofs []
   refine av (TU c hQ h19 h20 h21 h22 fun vl H2 k2 i2=> ?_)
   obtain⟨la,lc,wa,wc,rfl,-⟩:=i2.cut
   have hd:decide (aO n≠0)=false:=by rw[hq];rfl
   simp -implicitDefEqProofs [hd,aT]
   refine av (hW _ _ fun H'=> ?_)
   simp -implicitDefEqProofs []
   exact hK _
  ·have hqn:=eB hq
   simp -implicitDefEqProofs []
   refine av (TU c hQ h19 h20 h21 h22 fun vl H2 k2 i2=> ?_)
   have hd:decide (aO n≠0)=true:=decide_eq_true hq
   have n2:=k2.next
   obtain⟨la,lc,wa,wc,rfl,-⟩:=i2.cut
   obtain⟨H3,hH3⟩: ∃X:aa,X=(H2.alloc (.cells [.slice none 0 0,.slice none 0 0] false)).set H2.next (.cells [.slice la (DT.new n).R.length lc,.slice none 0 0] false):=⟨_,rfl⟩
   have k3:H2.le H3:=by rw[hH3];exact(H2.aj _).set (Nat.le_refl _) _
   have n3:H3.next=H2.next+1:=by rw[hH3];rfl
   have b3:H3.get H2.next=some (.cells [.slice la (DT.new n).R.length lc,.slice none 0 0] false):=by rw[hH3,YW,if_pos rfl]
   simp -implicitDefEqProofs [hd,aT,←hH3]
   refine aS c.mono (fun k T H'=> ∃i:Nat,i≤l.length∧k=l.length-i∧T 0 = .int .i64 n∧T 1=v∧T 5 = .pointer (some ⟨t,0,none⟩)∧T 6 = .pointer (some ⟨H2.next,0,none⟩)∧T 8 = .int .i64 i∧PlI n t H2.next (c.F aD) H i H') l.length ?_ ?_
   ·refine⟨0,by omega,rfl,?_⟩
    simp -implicitDefEqProofs []
    have n1:=k1.next
    refine⟨w0,Tp.new n,DT.new n,fun b=>H1.next≤b∧b<H2.next,_,_,(k1.trans k2).trans k3,hw0,(i1.le k2).le k3,.new hq,RS.new hq,FV.new n,b3,⟨?_,by omega,by omega⟩,i2.le k3,fun b hb=>⟨?_,by omega,by omega,by omega⟩⟩
    ·exact Classical.byContradiction fun hh=>by have:=i1.lt _ hh;omega
    ·exact Classical.byContradiction fun hh=>by have:=i1.lt _ hh;omega
   ·rintro k T H4 ⟨i,hi,rfl,t0,t1,t5,t6,t8,w,S,X,D,vl,vw,hle,hw,hS,ho,hRS,qaZ,hbx,hxb,hX,hD⟩
    by_cases hil:i<l.length
    ·have qB:(i:Int)<(l.length:Int):=by omega
     have wi:IntKind.i64.wrap ((i:Int)+1)=(i:Int)+1:=wrap64 (by omega) (by omega)
     obtain⟨d,hd'⟩: ∃d,l[i]? =some d:=⟨l[i],List.getElem?_eq_getElem hil⟩
     obtain⟨b,oo,cap,cs,ro,e,hb,hg0,hrow,hbd,e0,e3⟩:=XA hv hd'
     have hg:=(hle.get b hb).trans hg0
     obtain⟨H5,hH5⟩: ∃Y:aa,Y=H4.alloc (.cells [.slice none 0 0,.slice none 0 0] false):=⟨_,rfl⟩
     have k5:H4.le H5:=by rw[hH5];exact H4.aj _
     have n5:H5.next=H4.next+1:=by rw[hH5];rfl
     simp -implicitDefEqProofs [t0,t1,t5,t6,t8,e,hil,qB,hg,hrow,hbd,hbx,←hH5]
     have hqn:=eB hq
     have hlen:=ho.len
     have nodes: ∀R ∈ X.R,∃Q,Q ∈ S.R∧RN R Q∧Q.A.base=0∧Q.ok∧Sorted Q.A.L:=by
      intro R hR
      obtain⟨q,hq'⟩:=List.getElem?_of_mem hR
      have hql:=(List.getElem?_eq_some_iff.1 hq').1
      have hQ':S.R[q]? =some (S.R[q]'(by rw[←hRS.len];exact hql)):=List.getElem?_eq_getElem _
      obtain⟨a1,a2⟩:=hRS.nd q R _ hq' hQ'
      obtain⟨lb,cap,wv,fv,p,cs,ro,x1,x2,x3,x4,x5⟩:=hS.node hQ'
      exact⟨_,List.mem_of_getElem? hQ',a1,a2,(ho.node q _ hQ').1,x5.sorted⟩
     have fits: ∀R ∈ X.R,R.fit:=fun R hR=>by
      obtain⟨Q,_,q1,q2,q3,q4⟩:=nodes R hR
      exact qaW q1 q3 q2 (qaZ R hR) (by omega) q4
     have notes: ∀x ∈ X.way,0≤x.to∧x.to<X.R.length∧x.ai.length≤1024:=fun x hx=>by
      rw[hRS.way]at hx
      have:=ho.note x hx
      have e:=hRS.len
      omega
     have hlt: ∀(R:DR) (x:az),R ∈ X.R→x ∈ X.way→(R.take x).2.length≤100000:=by
      intro R x hR hx
      obtain⟨Q,_,q1,q2,q3,q4⟩:=nodes R hR
      rw[(q1.take (by have:=eB q3.1.1;omega) x (q3.1.promise _ _ _ _)).2]
      have:=(DK q3 q4 x).1
      omega
     refine aI c.mono (Xz c mM hQ h16 En h19 h20 h21 h22 hLZ (d:=d) (hX.le k5) fits notes (by have:=hRS.len;omega) (by rw[hRS.way];exact ho.way) hlt fun zY uq H6 k6 i6=> ?_)
     have n6:=k6.next
     have a6:H6.get H4.next=some (.cells [.slice none 0 0,.slice none 0 0] false):=(k6.get _ (by omega)).trans (by rw[hH5,YV,if_pos rfl])
     have qcD:=(k6.get H2.next (by omega)).trans ((k5.get H2.next hxb.2.2).trans hbx)
     obtain⟨X2,hX2⟩: ∃X2,X2=(X.wP d).1:=⟨_,rfl⟩
     obtain⟨b2,hb2⟩: ∃b2,b2=(X.wP d).2:=⟨_,rfl⟩
     obtain⟨r1,r2⟩:=hRS.wP ho d (fun Q x hQ hx=>by
      obtain⟨q,hq'⟩:=List.getElem?_of_mem hQ
      exact(ho.node q Q hq').1.1.promise _ _ _ _)
     have qac:=qaZ.wP (fun x hx=>(notes x hx).2.2) d
     rw[←hX2]at i6 r1 qac
     rw[←hb2]at r2 ⊢
     obtain⟨la',PI,Mi,wc',rfl,rfl⟩:=i6.cut
     have ne1: ¬ H2.next=H4.next:=by omega
     have ME: ¬ H4.next=H2.next:=by omega
     obtain⟨H7,hH7⟩: ∃Y:aa,Y=(H6.set H4.next (.cells [.slice la' X2.R.length PI,.slice Mi X2.way.length wc'] false)).set H2.next (.cells [.slice la' X2.R.length PI,.slice Mi X2.way.length wc'] false):=⟨_,rfl⟩
     have n7:H7.next=H6.next:=by rw[hH7];rfl
     have x7:H7.get H2.next=some (.cells [.slice la' X2.R.length PI,.slice Mi X2.way.length wc'] false):=by rw[hH7];simp only[YV,YW,YX,YY];repeat (first|rw[if_pos trivial]|rw[if_pos (by omega)]|rw[if_neg (by omega)])
     have hg7:H7.get b=some (.cells cs ro):=by rw[hH7,YW,if_neg (by omega),YW,if_neg (by have:=hle.next;omega)];exact((k5.trans k6).get b (by have:=hle.next;omega)).trans hg
     simp -implicitDefEqProofs [a6,qcD,←hH7,x7,ne1,ME,t0,t1,t5,t6,t8,e,hil,qB,hg7,hrow,hbd]
     have n4:=hle.next
     have iT7:xP w H7 t (c.F aD) S:=by
      rw[hH7]
      refine((hS.le k5).le k6).fr (((Fr.refl (fun b=>b=H4.next∨b=H2.next) H6).set (.inl (.inl rfl)) _).set (.inl (.inr rfl)) _) (fun b hb hn=> ?_)
      have:=hS.lt b hb
      rcases hn with hn|hn
      ·omega
      ·rw[hn]at hb;exact hb hxb.1
     have iD7:iw (fun b=>D b∨(H5.next≤b∧b<H6.next)) H7 X2 (.slice la' X2.R.length PI) (.slice Mi X2.way.length wc'):=by
      rw[hH7]
      refine i6.fr (((Fr.refl (fun b=>b=H4.next∨b=H2.next) H6).set (.inl (.inl rfl)) _).set (.inl (.inr rfl)) _) (fun b hb hn=> ?_)
      rcases hb with hb|hb
      ·have:=hD b hb
       rcases hn with hn|hn <;> omega
      ·rcases hn with hn|hn <;> omega
     have hw7: ∀b,(D b∨(H5.next≤b∧b<H6.next))→w b=0∧H.next≤b∧b<H7.next∧b≠H2.next:=by
      intro b hb
      rcases hb with hb|hb
      ·have:=hD b hb
       exact⟨this.1,this.2.1,by omega,this.2.2.2⟩
      ·exact⟨Classical.byContradiction fun hh=>by have:=hS.lt b hh;omega,by omega,by omega,by omega⟩
     refine aI c.mono (qby c hc hNd hL (d:=d) iT7 ho fun H8 tn ok2=> ?_)
     obtain⟨w2,p1,p2,p3,p4⟩:=tn
     obtain⟨S2,hS2⟩: ∃S2,S2=(S.wP d).1:=⟨_,rfl⟩
     rw[←hS2]at p4 ok2 r1
     rw[←r2]
     have n8:=p1.next
     have x8:=(p1.get H2.next (by omega) (by simpa using hxb.1)).trans x7
     have hwl:(S2.way.length:Int)=(X2.way.length:Int):=by rw[r1.way]
     have qcE:H.le H8:=⟨by omega,fun x hx=>by
      rw[p1.get x (by omega) (fun hh=>by have:=hw x hh;omega),hH7,YW,if_neg (by omega),YW,if_neg (by omega),(k5.trans k6).get x (by omega),hle.get x hx]⟩
     have nxt:PlI n t H2.next (c.F aD) H (i+1) H8:=by
      refine⟨w2,S2,X2,fun b=>D b∨(H5.next≤b∧b<H6.next),_,_,qcE,fun b hb=>(p2 b hb).elim (hw b) fun z=>by omega,p4,ok2,r1,qac,x8,⟨?_,hxb.2.1,by omega⟩,iD7.fr p1 (fun b hb hn=>hn (hw7 b hb).1),fun b hb=> ?_⟩
      ·exact Classical.byContradiction fun hh=>by
        rcases p2 _ hh with z|z
        ·exact z hxb.1
        ·omega
      ·obtain⟨a1,a2,a3,a4⟩:=hw7 b hb
       refine⟨Classical.byContradiction fun hh=> ?_,a2,by omega,a4⟩
       rcases p2 _ hh with z|z
       ·exact z a1
       ·omega
     simp -implicitDefEqProofs [x8,t5,t6]
     refine aI c.mono (Iy c hc p4 ?_)
     simp -implicitDefEqProofs [x8,hwl,t0,t1,t5,t6,t8,wi]
     exact⟨l.length-(i+1),by omega,i+1,by omega,rfl,e,by simp,nxt⟩
    ·have qB: ¬ (i:Int)<(l.length:Int):=by omega
     simp -implicitDefEqProofs [t0,t1,t5,t6,t8,XH,hil,qB]
     refine aS c.mono (fun k T H'=> ∃q:Nat,(q:Int)≤n+2∧k=(n+2-q).toNat∧T 0 = .int .i64 n∧T 5 = .pointer (some ⟨t,0,none⟩)∧T 6 = .pointer (some ⟨H2.next,0,none⟩)∧T 11 = .int .i64 ((q:Int)-1)∧H4.le H') (n+2).toNat ?_ ?_
     ·refine⟨0,by omega,by simp,?_⟩
      simp -implicitDefEqProofs [t0,t5,t6]
      exact aa.le_refl _
     ·rintro k T H5 ⟨q,hq2,rfl,t0,t5,t6,t11,k5⟩
      have wq:IntKind.i64.wrap ((q:Int)-1+1)=(q:Int)-1+1:=wrap64 (by omega) (by omega)
      by_cases qbP:(q:Int)-1≤n
      ·have n5:=k5.next
       obtain⟨la,lc,wa,wc,rfl,rfl⟩:=hX.cut
       have x5:=(k5.get H2.next hxb.2.2).trans hbx
       have hS5:=hS.le k5
       simp -implicitDefEqProofs [t0,t5,t6,t11,qbP,x5]
       refine av (vY c h22 fun H6 k6=> ?_)
       have n6:=k6.next
       have x6:=(k6.get H2.next (by omega)).trans x5
       rcases hRS.at ((q:Int)-1)with⟨z1,z2⟩|⟨R,Q,z1,z2,z3,z4,q1,q2⟩
       ·have hb:(decide (1≤q)&&decide ((q:Int)-1<(X.R.length:Int)))=false:=by
         rcases DT.uo z1 with z|z
         ·rw[decide_eq_false (by omega)];rfl
         ·rw[decide_eq_false (p:=(q:Int)-1<(X.R.length:Int)) (by omega),Bool.and_false]
        have hb':(decide (1≤(q:Int))&&decide ((q:Int)-1<(X.R.length:Int)))=false:=by
         rcases DT.uo z1 with z|z
         ·rw[decide_eq_false (by omega)];rfl
         ·rw[decide_eq_false (p:=(q:Int)-1<(X.R.length:Int)) (by omega),Bool.and_false]
        simp -implicitDefEqProofs [hb,hb',t0,t5,t6,t11]
        refine av (Kr c hc hNd (hS5.le k6) (fun _=> ?_) fun R hR=>by rw[z2]at hR;cases hR)
        simp -implicitDefEqProofs []
        refine av (qi c hR (l:=[]) (m:=[]) (eP.nil (fun _=>False) _ _).1.1 (eP.nil (fun _=>False) _ _).1.1 (by simp) ?_)
        simp -implicitDefEqProofs [t0,t5,t6,t11]
        refine av (GN c hc hNd (hS5.le k6) (fun _=> ?_) fun R hR=>by rw[z2]at hR;cases hR)
        simp -implicitDefEqProofs [t0,t5,t6,t11,wq]
        exact⟨(n+2).toNat-(q+1),by omega,q+1,by omega,by omega,by rw[wrap64 (by omega) (by omega)];omega,k5.trans k6⟩
       ·obtain⟨y1,y2,y3⟩:=DT.kR z1
        obtain⟨N,rfl⟩: ∃N:Nat,q=N+1:=⟨q-1,by omega⟩
        have hN1:((N+1:Nat):Int)-1=N:=by omega
        have hN2:(((N+1:Nat):Int)-1).toNat=N:=by omega
        rw[hN2]at z3 z4
        rw[hN1]at t11 y1 y2 z1 z2
        have hNl:N<X.R.length:=by omega
        have ZI:(N:Int)<(X.R.length:Int):=by omega
        have hN0:0≤(N:Int):=by omega
        obtain⟨U,b,o,cap,cs,ro,e,hbl,hget,hrow,hbd,hd⟩:=((hX.le k5).le k6).at z3
        simp only[Value.slice.injEq]at e
        obtain⟨rfl,-,rfl⟩:=e
        have x13:cs[o+N*27+13]? =some (.bool R.P.leads):=by
         have:=Dy hrow 13 (by omega)
         rw[this];rfl
        have hbase:=q1.L.pb
        have hsm:=qaZ R (List.mem_of_getElem? z3)
        have hq1:1≤N+1:=by omega
        simp -implicitDefEqProofs [hN1,t0,t5,t6,t11,x6,hNl,ZI,hN0,hget,hrow,hbd,cK]
        refine av (Zy c h20 h21 hd (by have:=hsm.tl;omega) (by omega) fun w1 H7 k7 g1=> ?_)
        have n7:=k7.next
        have x7:=(k7.get H2.next (by omega)).trans x6
        have qbQ:=(k7.get b hbl).trans hget
        simp -implicitDefEqProofs [hN1,t0,t5,t6,t11,x7,hNl,ZI,hN0,qbQ,x13]
        refine av (Kr c hc hNd ((hS5.le k6).le k7) (fun hz=>by rw[z2]at hz;cases hz) fun R' hR' v1 H8 k8 g8=> ?_)
        rw[z2]at hR'
        injection hR' with hR'
        subst hR'
        have n8:=k8.next
        have hlg:Ht R.L 0=DF Q.L 0:=q1.L.log 0
        simp -implicitDefEqProofs []
        refine av (qi c hR (l:=DF Q.L 0) (m:=Ht R.L 0) g8.Lg (g1.grow.Lg.le k8) (by rw[←hlg];unfold Ht;rw[List.length_map,List.length_range];have:=(L9 R.L (by omega)).2;split <;> omega) ?_)
        have hdl:decide (DF Q.L 0=Ht R.L 0)=true:=decide_eq_true hlg.symm
        simp -implicitDefEqProofs [hdl,hN1,t0,t5,t6,t11]
        refine av (GN c hc hNd (((hS5.le k6).le k7).le k8) (fun hz=>by rw[z2]at hz;cases hz) fun R' hR'=> ?_)
        rw[z2]at hR'
        injection hR' with hR'
        subst hR'
        have hld:R.P.leads=decide (Q.P.does=2):=q1.P.leads
        have wN:IntKind.i64.wrap ((N:Int)+1)=(N:Int)+1:=wrap64 (by omega) (by omega)
        simp -implicitDefEqProofs [hld,hN1,t0,t5,t6,t11,wN]
        have hl1:=hRS.len
        have hl2:=ho.len
        exact⟨(n+2).toNat-(N+2),by omega,N+2,by omega,by omega,by omega,((k5.trans k6).trans k7).trans k8⟩
      ·simp -implicitDefEqProofs [t0,t5,t6,t11,qbP]
       refine av (hW _ _ fun H'=> ?_)
       simp -implicitDefEqProofs []
       exact hK _
end
end
end
end Go.Proofs.YtpbbjfighohokaaGreatI
