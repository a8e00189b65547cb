/- The document's nodes, all of them: a note is doubled; new ones. / The document's nodes, all of them: new ones. / PRINTED by gen.py (this session's own): the intermediate form of some functions, and a context's having them. / A deed of the document's. / Nodes, and notes under way: what is in a log wa -/
import Derived.Test.YtpbbjfighohokaaGreatDcT
import Derived.Test.YtpbbjfighohokaaGreatPartDoc22
import Derived.Test.YtpbbjfighohokaaGreatDoc17
namespace Go.Proofs.YtpbbjfighohokaaGreatI
open Go
set_option linter.unusedSimpArgs false
set_option linter.unusedVariables false
section
attribute [local simp] J0 J1 J2 J3 J4 J5 J6 J7 J8 J9 Ja Jb Jc Jd Je Jf Jg Jh Ji Jj Jk Jl Jm Jn Jo Jp Jq Jr Js Jt Ju Jv Jw Jx Jy Jz JA JB JC JD JE JF JG JH JI JJ JK JL JM JN JO JP JQ JR JS aQ bZ.kind JT JU JV JW JX JY JZ Y0 Y1 Y2 Y3 Y4 Y5 Y6 Y7 Y8 Y9 Ya Yb Yc Yd Ye Yf Yg Yh Yi Yj Yk Yl Ym Yn Yo Yp Yq jq Yr Ys Yt Yu Yv Yw Yx Yy dZ bA bE Yz YA YB YC YD YE eO YF YG YH YI YJ YK YL YM YN YO YP YQ YR YS YT YU nP bK jR nG bu putAt aa.ah aa.aP aa.aK YV YW YX YY YZ B0 B1 B2 B3 B4 B5 B6 B7 B8 B9 Ba Bb Bc Bd Be Bf Bg Bh Bi Bj Bk Bl Bm Bn Bo Bp
section
section
variable (c:Ctx) (mM:dw c) (hQ:bN c) (h16:dS c) (En:eF c) (h19:dU c) (h20:eG c) (h21:fM c) (h22:mH c) {H:aa} {K:Value→aa→Prop} {D:Nat→Prop}
include h16 h22 in
theorem Ta {S:DT}{vl vw:Value}{i:Int}(h:iw D H S vl vw)
 (h0:S.way=[]∨1024≤S.way.length→∀H',H.le H'→K (.tuple #[.agg #[vl,vw],.bool false]) H')
 (h1: ∀(p:Nat) (x:az),(p:Int)=GM i S.way.length→S.way.length<1024→S.way[p]? =some x→∀uq H',H.le H'→iw (Nw D H H') H' ⟨S.R,S.way++[x]⟩ vl uq→K (.tuple #[.agg #[vl,uq],.bool true]) H'):
 c.C (c.F zW) [.agg #[vl,vw],.int .i64 i] H K:=by
 refine c.enter h22.Ei rfl ?_
 obtain⟨la,lc,wa,wc,rfl,rfl⟩:=h.cut
 obtain⟨H0,hH0⟩: ∃X:aa,X=(H.alloc (.cells [.slice la S.R.length lc,.slice wa S.way.length wc] false)).alloc (.cells [.slice none 0 0,.slice none 0 0] false):=⟨_,rfl⟩
 have k0:H.le H0:=by rw[hH0];exact(H.aj _).alloc _
 have n0:H0.next=H.next+2:=by rw[hH0];rfl
 have g0:H0.get H.next=some (.cells [.slice la S.R.length lc,.slice wa S.way.length wc] false):=by rw[hH0];simp only[YV,YW,YX,YY];repeat (first|rw[if_pos trivial]|rw[if_pos (by omega)]|rw[if_neg (by omega)])
 have g1:H0.get (H.next+1)=some (.cells [.slice none 0 0,.slice none 0 0] false):=by rw[hH0];simp only[YV,YW,YX,YY];repeat (first|rw[if_pos trivial]|rw[if_pos (by omega)]|rw[if_neg (by omega)])
 by_cases hz:S.way=[]
 ·have hzl:(S.way.length:Int)=0:=by rw[hz];rfl
  simp -implicitDefEqProofs [fO,←hH0,g0,g1,eq_true hzl,eq_true hz]
  exact h0 (.inl hz) _ (k0.set (by omega) _)
 have hpos:0<S.way.length:=List.length_pos_iff.2 hz
 have hzl: ¬ (S.way.length:Int)=0:=by omega
 have qcv: ¬ S.way.length=0:=by omega
 by_cases h24:1024≤S.way.length
 ·have qaX:(1024:Int)≤(S.way.length:Int):=by omega
  simp -implicitDefEqProofs [fO,←hH0,g0,g1,hzl,hz,h24,qaX]
  exact h0 (.inr h24) _ (k0.set (by omega) _)
 have qaX: ¬ (1024:Int)≤(S.way.length:Int):=by omega
 obtain⟨r1,r2⟩:=NK i hpos
 obtain⟨p,hp⟩: ∃p:Nat,GM i S.way.length=p:=⟨(GM i S.way.length).toNat,by omega⟩
 have hpl:p<S.way.length:=by omega
 obtain⟨us,u1,u2,u3,ws,w1,w2,w3⟩:=id h
 have zw:=eX w1
 obtain⟨x,hx⟩: ∃x,S.way[p]? =some x:=⟨S.way[p],List.getElem?_eq_getElem hpl⟩
 obtain⟨u,hu⟩: ∃u,ws[p]? =some u:=⟨ws[p]'(by omega),List.getElem?_eq_getElem (by omega)⟩
 have hsu:=w3 p x u hx hu
 obtain⟨y,rfl⟩:=hsu.cut
 obtain⟨rows,hrows⟩: ∃r,r=List.zipWith aC S.way ws:=⟨_,rfl⟩
 have hrp:rows[p]? =some (aC x (.slice y.1 x.ai.length y.2)):=by rw[hrows,List.getElem?_zipWith,hx,hu]
 have h7: ∀r ∈ rows,r.length=7:=by rw[hrows];exact gI _ _
 have hone:rows.flatten.all cO=true:=by rw[hrows];exact um (nK.ones w1 w3)
 rw[←hrows]at zw w2
 have w0:=w2.le k0
 obtain⟨b,o,cc,cs,ro,ea,hbl,hget,hrlen,hrow,hbd⟩:=w0.1.sl.at hrp
 rw[zw]at ea
 simp only[Value.slice.injEq]at ea
 obtain⟨rfl,-,rfl⟩:=ea
 simp only[aC]at hrow
 obtain⟨v2,H2,Vk,Rz,kp2,-⟩:=(Gr.nil H0 H0.next 7).many (bytes:=72) (aa.le_refl _) (Nat.le_refl _) (by omega) (by omega) (new:=rows) (by rw[zw];simp;omega) (by rw[zw];simp;omega) h7 hone
 have k2:H0.le H2:=kp2.le (Nat.le_refl _)
 have n2:=k2.next
 rw[List.nil_append]at Rz
 have f2:=w0.2.first (by omega)
 rw[zw]at f2 Vk
 have b2:=(k2.get H.next (by omega)).trans g0
 have Nt:=(k2.get b hbl).trans hget
 simp -implicitDefEqProofs [fO,←hH0,g0,hzl,hz,h24,qaX,bG,f2,Vk,b2]
 refine aI c.mono (Xc c h16 (i:=i) (n:=S.way.length) ⟨hpos,by omega⟩ ?_)
 rw[hp]
 have Ze:(p:Int)<(S.way.length:Int):=by omega
 obtain⟨v3,H3,ap3,IB,kp3,-⟩:=Rz.one (H1:=H2.alloc (.cells (aC x (.slice y.1 x.ai.length y.2)) false)) (bytes:=72) (r:=aC x (.slice y.1 x.ai.length y.2)) (H2.aj _) (by rw[YX];omega) (by omega) (by omega) (by rw[zw];omega) (by rw[zw];omega) rfl rfl
 have f3:=nJ H2 7 (aC x (.slice y.1 x.ai.length y.2)) rfl (by omega)
 have k3:H0.le H3:=((k2.alloc (.cells (aC x (.slice y.1 x.ai.length y.2)) false)).keep (Nat.le_refl _) |>.trans kp3).le (Nat.le_refl _)
 have n3:=k3.next
 have b3:=(k3.get H.next (by omega)).trans g0
 have e1:=(k3.get (H.next+1) (by omega)).trans g1
 obtain⟨va,vc,hvv⟩: ∃va vc,v3 = .slice va (S.way.length+1) vc:=by
  obtain⟨a,cp,e⟩:=IB.grow.len
  rw[List.length_append,zw]at e
  exact⟨a,cp,e⟩
 subst hvv
 have ne1: ¬ H.next+1=H.next:=by omega
 simp only[aC]at ap3 f3
 simp -implicitDefEqProofs [b2,hpl,Ze,Nt,hrow,hbd,bG,f3,ap3,b3,e1,ne1]
 have fin: ∀o1 o2,K (.tuple #[.agg #[.slice la S.R.length lc,.slice va (S.way.length+1) vc],.bool true]) ((H3.set H.next o1).set (H.next+1) o2):=by
  intro o1 o2
  have kk:H.le ((H3.set H.next o1).set (H.next+1) o2):=(((k0.trans k3).set (Nat.le_refl _) _).set (by omega) _)
  refine h1 p x hp.symm (by omega) hx _ _ kk ?_
  refine⟨us,u1,((u2.le kk).weak fun b z=>.inl z),fun q R' U' ha hb=>((u3 q R' U' ha hb).le kk).weak fun b z=>.inl z,ws++[.slice y.1 x.ai.length y.2],by simp[w1],?_,fun q z u ha hb=> ?_⟩
  ·show eP _ _ 7 _ (List.zipWith aC (S.way++[x]) (ws++[.slice y.1 x.ai.length y.2]))
   have hrr:List.zipWith aC (S.way++[x]) (ws++[.slice y.1 x.ai.length y.2])=rows++[aC x (.slice y.1 x.ai.length y.2)]:=by
    rw[List.zipWith_append w1.symm,←hrows];rfl
   rw[hrr]
   exact((IB.set (by omega) o1).set (by omega) o2).grow.QD.weak fun b hb=>.inr ⟨by omega,hb.2⟩
  ·have ha:(S.way++[x])[q]? =some z:=ha
   by_cases hq:q<S.way.length
   ·rw[List.getElem?_append_left hq]at ha
    rw[List.getElem?_append_left (by omega)]at hb
    exact((w3 q z u ha hb).le kk).weak fun b z=>.inl z
   ·rw[List.getElem?_append_right (by omega)]at ha
    rw[List.getElem?_append_right (by omega),w1]at hb
    obtain⟨m,hm⟩: ∃m,m=q-S.way.length:=⟨_,rfl⟩
    rw[←hm]at ha hb
    match m,ha,hb with
    |0,ha,hb=>simp at ha hb;subst ha;subst hb;exact(hsu.le kk).weak fun b z=>.inl z
    |m+1,ha,hb=>simp at ha
 exact fin _ _
end
end
section
def ru0:RU:=⟨(none,0),(none,0),(none,0),(none,0)⟩
theorem qcz (D:Nat→Prop)(H:aa)(n me:Int):qG D H (DR.new n me) ru0:=⟨eP.nil _ _ _,eP.nil _ _ _,eP.nil _ _ _,eP.nil _ _ _⟩
theorem ZJ (n:Int):0≤aO n:=by
 by_cases h:aO n=0
 ·omega
 ·have:=eB h;omega
section
variable (c:Ctx) (mM:dw c) (hQ:bN c) (h16:dS c) (En:eF c) (h19:dU c) (h20:eG c) (h21:fM c) (h22:mH c) {H:aa} {K:Value→aa→Prop} {D:Nat→Prop}
include hQ h19 h20 h21 h22 in
theorem TU {n:Int}(hK: ∀vl H',H.le H'→iw (fun b=>H.next≤b∧b<H'.next) H' (DT.new n) vl (.slice none 0 0)→K (.tuple #[.agg #[vl,.slice none 0 0],.bool (decide (aO n≠0))]) H'):
 c.C (c.F FK) [.int .i64 n] H K:=by
 refine c.enter h22.Kb rfl ?_
 obtain⟨H0,hH0⟩: ∃X:aa,X=((H.alloc (.cells [.slice none 0 0,.slice none 0 0] false)).alloc (.cells [.slice none 0 0,.slice none 0 0] false)).set (H.next+1) (.cells [.slice none 0 0,.slice none 0 0] false):=⟨_,rfl⟩
 have k0:H.le H0:=by rw[hH0];exact((H.aj _).alloc _).set (by omega) _
 have n0:H0.next=H.next+2:=by rw[hH0];rfl
 have g0:H0.get H.next=some (.cells [.slice none 0 0,.slice none 0 0] false):=by rw[hH0];simp only[YV,YW,YX,YY];repeat (first|rw[if_pos trivial]|rw[if_pos (by omega)]|rw[if_neg (by omega)])
 have g1:H0.get (H.next+1)=some (.cells [.slice none 0 0,.slice none 0 0] false):=by rw[hH0];simp only[YV,YW,YX,YY];repeat (first|rw[if_pos trivial]|rw[if_pos (by omega)]|rw[if_neg (by omega)])
 have hq0:=ZJ n
 obtain⟨N,hN⟩: ∃N:Nat,N=if aO n=0 then 0 else n.toNat:=⟨_,rfl⟩
 have hres:DT.new n=⟨(List.range N).map fun(j:Nat)=>DR.new n j,[]⟩:=by
  unfold DT.new
  rw[hN]
  split <;> rfl
 have hNq:aO n≠0→(N:Int)=n∧1≤n∧n≤7:=by
  intro hq
  have:=eB hq
  rw[hN,if_neg hq]
  omega
 simp -implicitDefEqProofs [oP,←hH0]
 refine aS c.mono (fun k T H'=> ∃(j:Nat) (v:Option Addr×Nat),j≤N∧k=N-j∧T 0 = .int .i64 n∧T 2 = .pointer (some ⟨H.next,0,none⟩)∧T 4 = .pointer (some ⟨H.next+1,0,none⟩)∧T 5 = .int .i64 j∧aa.upd [H.next+1] H0 H' ∧
  H'.get (H.next+1)=some (.cells [.slice v.1 j v.2,.slice none 0 0] false)∧Gr H' H0.next 27 (.slice v.1 j v.2) ((List.range j).map fun(q:Nat)=>dm (DR.new n q) ru0)) N ?_ ?_
 ·refine⟨0,(none,0),by omega,rfl,?_⟩
  simp -implicitDefEqProofs []
  exact⟨aa.iE _ _,g1,Gr.nil _ _ _⟩
 ·rintro k T H1 ⟨j,v,hj,rfl,t0,t2,t4,t5,u1,e1,gr⟩
  have k1:H.le H1:=k0.ZY u1 (fun q hq=>by simp at hq;omega)
  have n1:=u1.next
  have e0:=(u1.get H.next (by omega) (by simp)).trans g0
  have stop:j=N→∀o,K (.tuple #[.agg #[.slice v.1 j v.2,.slice none 0 0],.bool (decide (0<(j:Int)))]) (H1.set H.next o):=by
   intro RA o
   have hb:decide (0<(j:Int))=decide (aO n≠0):=by
    by_cases hq:aO n=0
    ·rw[if_pos hq]at hN
     rw[decide_eq_false (by omega),decide_eq_false (by simpa using hq)]
    ·have:=hNq hq
     rw[decide_eq_true (by omega),decide_eq_true hq]
   rw[hb]
   refine hK _ _ (k1.set (Nat.le_refl _) _) ?_
   rw[hres]
   refine⟨List.replicate N ru0,by simp,?_,?_,nK.nil _ _⟩
   ·have hz:List.zipWith dm ((List.range N).map fun(q:Nat)=>DR.new n q) (List.replicate N ru0)=(List.range j).map fun(q:Nat)=>dm (DR.new n q) ru0:=by
     refine List.ext_getElem? fun q=> ?_
     rw[List.getElem?_zipWith,List.getElem?_map,List.getElem?_map,List.getElem?_replicate,RA]
     by_cases hq:q<N
     ·simp[hq]
     ·simp[hq]
    rw[hz]
    exact(gr.set (by omega) o).grow.QD.weak fun b hb=>⟨by omega,hb.2⟩
   ·intro q R U ha hb
    rw[List.getElem?_replicate]at hb
    split at hb
    ·injection hb with hb
     subst hb
     rw[List.getElem?_map]at ha
     obtain⟨m,-,rfl⟩:=Option.map_eq_some_iff.1 ha
     exact qcz _ _ _ _
    ·cases hb
  by_cases RA:j<N
  ·have hq:aO n≠0:=by
    intro hq
    rw[if_pos hq]at hN
    omega
   obtain⟨q1,q2,q3⟩:=hNq hq
   have hjn:(j:Int)<n:=by omega
   have hqp:0<aO n:=by omega
   have wj:IntKind.i64.wrap ((j:Int)+1)=(j:Int)+1:=wrap64 (by omega) (by omega)
   simp -implicitDefEqProofs [t0,t2,t4,t5,hjn]
   refine av (lM c hQ ?_)
   simp -implicitDefEqProofs [t0,t2,t4,t5,hqp]
   refine av (ZA c hQ h19 h20 h21 fun bb H2 k2=> ?_)
   have n2:=k2.next
   obtain⟨Rj,hRj⟩: ∃Rj,Rj=dm (DR.new n j) ru0:=⟨_,rfl⟩
   have qcA:dm (DR.new n j) ⟨(none,0),(none,0),(none,0),(none,0)⟩=Rj:=hRj.symm
   have hl:Rj.length=27:=by rw[hRj];exact cK
   have ho:Rj.all cO=true:=by rw[hRj];exact iY
   have ht:List.take 27 Rj=Rj:=by rw[hRj];exact iq
   rw[qcA]
   have x1:=(k2.get (H.next+1) (by omega)).trans e1
   obtain⟨H3,hH3⟩: ∃X:aa,X=(H2.alloc (.cells [.int .i64 0,.int .i64 0,.int .i64 0,.int .i64 0,.int .i64 0,.slice none 0 0,.int .i64 0,.int .i64 0,.int .i64 0,.int .i64 0,.int .i64 0,.int .i64 0,.bool false,.bool false,.bool false,.bool false,.bool false,.bool false,.bool false,.bool false,.bool false,.bool false,.slice none 0 0,.int .i64 0,.int .i64 0,.slice none 0 0,.slice none 0 0] false)).set H2.next (.cells Rj false):=⟨_,rfl⟩
   have k3:H2.le H3:=by rw[hH3];exact(H2.aj _).set (Nat.le_refl _) _
   have n3:H3.next=H2.next+1:=by rw[hH3];rfl
   have b3:H3.get H2.next=some (.cells Rj false):=by rw[hH3,YW,if_pos rfl]
   have x3:=(k3.get (H.next+1) (by omega)).trans x1
   have k13:=k2.trans k3
   obtain⟨v4,H4,ap4,El,kp4,-⟩:=gr.one (H1:=H3.alloc (.cells Rj false)) (bytes:=216) (r:=Rj) (k13.alloc _) (by rw[YX];omega) (by omega) (by omega) (by simp;omega) (by simp;omega) hl ho
   have f4:=nJ H3 27 Rj hl (by omega)
   have hrow:((List.range j).map fun(q:Nat)=>dm (DR.new n q) ru0)++[Rj]=(List.range (j+1)).map fun(q:Nat)=>dm (DR.new n q) ru0:=by rw[List.range_succ,List.map_append,hRj];rfl
   rw[hrow]at El
   obtain⟨v',rfl⟩: ∃v':Option Addr×Nat,v4 = .slice v'.1 (j+1) v'.2:=by
    obtain⟨a,cp,e⟩:=El.grow.len
    rw[List.length_map,List.length_range]at e
    exact⟨(a,cp),e⟩
   have u4:aa.upd [H.next+1] H0 H4:=(u1.vH ((k13.alloc (.cells Rj false)).keep (B:=H0.next) n1) (Nat.le_refl _)).vH kp4 (Nat.le_refl _)
   have x4:H4.get (H.next+1)=some (.cells [.slice v.1 j v.2,.slice none 0 0] false):=by
    rw[kp4.get (H.next+1) (by omega),YV,if_neg (by omega)];exact x3
   simp -implicitDefEqProofs [t0,t2,t4,t5,hl,ho,←hH3,x3,b3,ht,bG,f4,ap4,x4,wj]
   exact⟨N-(j+1),by omega,j+1,by omega,rfl,by simp,u4.set (.inr (by simp)) _,v'.1,v'.2,⟨rfl,rfl,rfl⟩,El.set (by omega) _⟩
  ·have uA:j=N:=by omega
   by_cases hjn:(j:Int)<n
   ·have hqp: ¬ 0<aO n:=by
     intro hqp
     have:=hNq (by omega)
     omega
    simp -implicitDefEqProofs [t0,t2,t4,t5,hjn]
    refine av (lM c hQ ?_)
    simp -implicitDefEqProofs [t0,t2,t4,t5,hqp,e0,e1]
    simpa using stop uA _
   ·simp -implicitDefEqProofs [t0,t2,t4,t5,hjn,e0,e1]
    simpa using stop uA _
end
end
end
abbrev uP:Nat:=373
abbrev Ep:Nat:=374
def iZ (F:Nat→FuncId)(Ty:Nat→TypeId):aA:=⟨107,[.tmp 4],.seq (.ops [⟨some 4,.move (.const (.bool false)),none⟩]) (.seq (.seq (.ops [⟨some 14,.move (.tmp 1),none⟩,⟨some 15,.call (F 334) [.tmp 14],none⟩,⟨some 16,.un .not (.tmp 15),none⟩]) (.cond (.tmp 16) (.seq (.ops [⟨some 17,.call (F 332) [],none⟩,⟨some 4,.move (.tmp 17),none⟩]) (.ret)) (.skip))) (.seq (.ops [⟨some 18,.move (.tmp 0),none⟩,⟨some 19,.call (F 311) [.tmp 18],none⟩,⟨some 5,.move (.tmp 19),none⟩]) (.seq (.ops [⟨some 21,.move (.tmp 0),none⟩,⟨some 22,.call (F 363) [.tmp 21],none⟩,⟨some 20,.move (.tmp 22),none⟩,⟨some 23,.extract (.tmp 20) 0,none⟩,⟨some 24,.extract (.tmp 20) 1,none⟩,⟨some 6,.alloc [.slice none 0 0,.slice none 0 0],none⟩,⟨none,.store 2 (.tmp 6) (.tmp 23),none⟩,⟨some 7,.move (.tmp 24),none⟩]) (.seq (.seq (.ops [⟨some 25,.move (.tmp 7),none⟩,⟨some 26,.un .not (.tmp 25),none⟩,⟨some 27,.move (.tmp 26),none⟩,⟨some 28,.move (.tmp 5),some (27,false)⟩,⟨some 29,.fC 0 false (.tmp 28),some (27,false)⟩,⟨some 30,.pick (.tmp 27) (.const (.bool true)) (.tmp 29),none⟩]) (.cond (.tmp 30) (.seq (.ops [⟨some 31,.move (.tmp 7),none⟩,⟨some 32,.un .not (.tmp 31),none⟩,⟨some 33,.move (.tmp 32),none⟩,⟨some 34,.move (.tmp 5),some (33,true)⟩,⟨some 35,.fC 0 false (.tmp 34),some (33,true)⟩,⟨some 36,.pick (.tmp 33) (.tmp 35) (.const (.bool false)),none⟩,⟨some 37,.move (.tmp 36),none⟩,⟨some 38,.call (F 332) [],some (37,true)⟩,⟨some 39,.pick (.tmp 37) (.tmp 38) (.const (.bool false)),none⟩,⟨some 4,.move (.tmp 39),none⟩]) (.ret)) (.skip))) (.seq (.seq (.ops [⟨some 8,.move (.const (.int .i64 0)),none⟩]) (.block 0 (.loop (.seq (.seq (.ops [⟨some 40,.move (.tmp 8),none⟩,⟨some 41,.move (.tmp 1),none⟩,⟨some 42,.bR (.tmp 41),none⟩,⟨some 43,.bin .lss (.tmp 40) (.tmp 42),none⟩]) (.cond (.tmp 43) (.skip) (.exit 0))) (.seq (.block 1 (.seq (.draw [(⟨some 47,.ak 2 (.tmp 6),none⟩,[]),(⟨some 48,.move (.tmp 1),none⟩,[]),(⟨some 49,.move (.tmp 8),none⟩,[]),(⟨some 50,.bg 4 (.tmp 48) (.tmp 49),none⟩,[]),(⟨some 51,.ak 4 (.tmp 50),none⟩,[]),(⟨some 9,.alloc [.slice none 0 0,.slice none 0 0],none⟩,[]),(⟨some 52,.call (F 374) [.tmp 47,.tmp 51],none⟩,[]),(⟨some 46,.move (.tmp 52),none⟩,[]),(⟨some 53,.extract (.tmp 46) 0,none⟩,[]),(⟨some 54,.extract (.tmp 46) 1,none⟩,[]),(⟨none,.store 2 (.tmp 9) (.tmp 53),none⟩,[]),(⟨some 10,.move (.tmp 54),none⟩,[])]) (.seq (.ops [⟨some 55,.ak 2 (.tmp 9),none⟩,⟨none,.store 2 (.tmp 6) (.tmp 55),none⟩]) (.seq (.draw [(⟨some 56,.move (.tmp 5),none⟩,[]),(⟨some 57,.move (.tmp 1),none⟩,[]),(⟨some 58,.move (.tmp 8),none⟩,[]),(⟨some 59,.bg 4 (.tmp 57) (.tmp 58),none⟩,[]),(⟨some 60,.ak 4 (.tmp 59),none⟩,[]),(⟨some 62,.move (.tmp 10),none⟩,[]),(⟨some 61,.call (F 335) [.tmp 56,.tmp 60],none⟩,[]),(⟨some 63,.eqv true [] (.tmp 61) (.tmp 62),none⟩,[]),(⟨some 64,.move (.tmp 63),none⟩,[]),(⟨some 65,.move (.tmp 5),some (64,false)⟩,[]),(⟨some 67,.fieldAddr 1 (.tmp 6),some (64,false)⟩,[]),(⟨some 68,.ah (.tmp 67),some (64,false)⟩,[]),(⟨some 69,.bR (.tmp 68),some (64,false)⟩,[]),(⟨some 66,.call (F 321) [.tmp 65],some (64,false)⟩,[⟨some 68,.ah (.tmp 67),some (64,false)⟩]),(⟨some 70,.bin .neq (.tmp 66) (.tmp 69),some (64,false)⟩,[]),(⟨some 71,.pick (.tmp 64) (.const (.bool true)) (.tmp 70),none⟩,[])]) (.cond (.tmp 71) (.seq (.ops [⟨some 4,.move (.const (.bool false)),none⟩]) (.ret)) (.skip)))))) (.ops [⟨some 44,.move (.tmp 8),none⟩,⟨some 45,.bin .add (.tmp 44) (.const (.int .i64 1)),none⟩,⟨some 8,.move (.tmp 45),none⟩])))))) (.seq (.seq (.ops [⟨some 11,.move (.const (.int .i64 (-1))),none⟩]) (.block 2 (.loop (.seq (.seq (.ops [⟨some 72,.move (.tmp 11),none⟩,⟨some 73,.move (.tmp 0),none⟩,⟨some 74,.bin .leq (.tmp 72) (.tmp 73),none⟩]) (.cond (.tmp 74) (.skip) (.exit 2))) (.seq (.block 3 (.seq (.ops [⟨some 12,.move (.const (.slice none 0 0)),none⟩]) (.seq (.ops [⟨some 13,.move (.const (.bool false)),none⟩]) (.seq (.seq (.ops [⟨some 77,.ak 2 (.tmp 6),none⟩,⟨some 78,.move (.tmp 11),none⟩,⟨some 79,.call (F 364) [.tmp 77,.tmp 78],none⟩]) (.cond (.tmp 79) (.seq (.ops [⟨some 80,.fieldAddr 0 (.tmp 6),none⟩,⟨some 81,.ah (.tmp 80),none⟩,⟨some 82,.move (.tmp 11),none⟩,⟨some 83,.bg 27 (.tmp 81) (.tmp 82),none⟩,⟨some 84,.ak 27 (.tmp 83),none⟩,⟨some 85,.call (F 351) [.tmp 84],none⟩,⟨some 12,.move (.tmp 85),none⟩]) (.ops [⟨some 86,.fieldAddr 0 (.tmp 6),none⟩,⟨some 87,.ah (.tmp 86),none⟩,⟨some 88,.move (.tmp 11),none⟩,⟨some 89,.bg 27 (.tmp 87) (.tmp 88),none⟩,⟨some 90,.fieldAddr 6 (.tmp 89),none⟩,⟨some 91,.fieldAddr 7 (.tmp 90),none⟩,⟨some 92,.ah (.tmp 91),none⟩,⟨some 13,.move (.tmp 92),none⟩])) (.skip))) (.seq (.ops [⟨some 93,.move (.tmp 5),none⟩,⟨some 94,.move (.tmp 11),none⟩,⟨some 95,.call (F 320) [.tmp 93,.tmp 94],none⟩,⟨some 96,.move (.tmp 12),none⟩,⟨some 97,.call (F 70) [.tmp 95,.tmp 96],none⟩,⟨some 98,.un .not (.tmp 97),none⟩,⟨some 99,.move (.tmp 98),none⟩,⟨some 100,.move (.tmp 5),some (99,false)⟩,⟨some 101,.move (.tmp 11),some (99,false)⟩,⟨some 102,.call (F 322) [.tmp 100,.tmp 101],some (99,false)⟩,⟨some 103,.move (.tmp 13),some (99,false)⟩,⟨some 104,.eqv true [] (.tmp 102) (.tmp 103),some (99,false)⟩,⟨some 105,.pick (.tmp 99) (.const (.bool true)) (.tmp 104),none⟩]) (.cond (.tmp 105) (.seq (.ops [⟨some 4,.move (.const (.bool false)),none⟩]) (.ret)) (.skip))))))) (.ops [⟨some 75,.move (.tmp 11),none⟩,⟨some 76,.bin .add (.tmp 75) (.const (.int .i64 1)),none⟩,⟨some 11,.move (.tmp 76),none⟩])))))) (.seq (.ops [⟨some 106,.call (F 332) [],none⟩,⟨some 4,.move (.tmp 106),none⟩]) (.ret))))))))⟩
def bU (F:Nat→FuncId)(Ty:Nat→TypeId):aA:=⟨82,[.dD 4 2,.tmp 5],.seq (.ops [⟨some 2,.box (.tmp 0),none⟩,⟨some 3,.box (.tmp 1),none⟩,⟨some 4,.alloc [.slice none 0 0,.slice none 0 0],none⟩,⟨some 5,.move (.const (.bool false)),none⟩]) (.seq (.seq (.ops [⟨some 11,.fieldAddr 0 (.tmp 3),none⟩,⟨some 12,.ah (.tmp 11),none⟩]) (.block 0 (.seq (.ops [⟨some 14,.bin .eql (.tmp 12) (.const (.int .i64 0)),none⟩,⟨some 13,.move (.tmp 14),none⟩]) (.cond (.tmp 13) (.seq (.ops [⟨some 15,.ak 2 (.tmp 2),none⟩,⟨some 16,.fieldAddr 1 (.tmp 3),none⟩,⟨some 17,.ah (.tmp 16),none⟩,⟨some 18,.call (F 365) [.tmp 15,.tmp 17],none⟩,⟨some 19,.extract (.tmp 18) 0,none⟩,⟨some 20,.extract (.tmp 18) 1,none⟩,⟨none,.store 2 (.tmp 4) (.tmp 19),none⟩,⟨some 5,.move (.tmp 20),none⟩]) (.ret)) (.seq (.ops [⟨some 22,.bin .eql (.tmp 12) (.const (.int .i64 1)),none⟩,⟨some 21,.move (.tmp 22),none⟩]) (.cond (.tmp 21) (.seq (.ops [⟨some 24,.ak 2 (.tmp 2),none⟩,⟨some 25,.fieldAddr 1 (.tmp 3),none⟩,⟨some 26,.ah (.tmp 25),none⟩,⟨some 27,.call (F 366) [.tmp 24,.tmp 26],none⟩,⟨some 23,.move (.tmp 27),none⟩,⟨some 28,.extract (.tmp 23) 0,none⟩,⟨some 29,.extract (.tmp 23) 1,none⟩,⟨some 30,.extract (.tmp 23) 2,none⟩,⟨some 6,.alloc [.slice none 0 0,.slice none 0 0],none⟩,⟨some 7,.alloc [.int .i64 0,.int .i64 0,.int .i64 0,.int .i64 0,.int .i64 0,.int .i64 0,.slice none 0 0],none⟩,⟨none,.store 2 (.tmp 6) (.tmp 28),none⟩,⟨none,.store 7 (.tmp 7) (.tmp 29),none⟩,⟨some 8,.move (.tmp 30),none⟩]) (.seq (.ops [⟨some 31,.ak 2 (.tmp 6),none⟩,⟨some 32,.move (.tmp 8),none⟩,⟨none,.store 2 (.tmp 4) (.tmp 31),none⟩,⟨some 5,.move (.tmp 32),none⟩]) (.ret))) (.seq (.ops [⟨some 34,.bin .eql (.tmp 12) (.const (.int .i64 2)),none⟩,⟨some 33,.move (.tmp 34),none⟩]) (.cond (.tmp 33) (.seq (.ops [⟨some 35,.ak 2 (.tmp 2),none⟩,⟨some 36,.fieldAddr 1 (.tmp 3),none⟩,⟨some 37,.ah (.tmp 36),none⟩,⟨some 38,.call (F 367) [.tmp 35,.tmp 37],none⟩,⟨some 39,.extract (.tmp 38) 0,none⟩,⟨some 40,.extract (.tmp 38) 1,none⟩,⟨none,.store 2 (.tmp 4) (.tmp 39),none⟩,⟨some 5,.move (.tmp 40),none⟩]) (.ret)) (.seq (.ops [⟨some 42,.bin .eql (.tmp 12) (.const (.int .i64 3)),none⟩,⟨some 41,.move (.tmp 42),none⟩]) (.cond (.tmp 41) (.seq (.ops [⟨some 43,.ak 2 (.tmp 2),none⟩,⟨some 44,.fieldAddr 1 (.tmp 3),none⟩,⟨some 45,.ah (.tmp 44),none⟩,⟨some 46,.call (F 368) [.tmp 43,.tmp 45],none⟩,⟨some 47,.extract (.tmp 46) 0,none⟩,⟨some 48,.extract (.tmp 46) 1,none⟩,⟨none,.store 2 (.tmp 4) (.tmp 47),none⟩,⟨some 5,.move (.tmp 48),none⟩]) (.ret)) (.seq (.ops [⟨some 50,.bin .eql (.tmp 12) (.const (.int .i64 4)),none⟩,⟨some 49,.move (.tmp 50),none⟩]) (.cond (.tmp 49) (.seq (.ops [⟨some 52,.ak 2 (.tmp 2),none⟩,⟨some 53,.fieldAddr 1 (.tmp 3),none⟩,⟨some 54,.ah (.tmp 53),none⟩,⟨some 55,.fieldAddr 3 (.tmp 3),none⟩,⟨some 56,.ah (.tmp 55),none⟩,⟨some 57,.call (F 369) [.tmp 52,.tmp 54,.tmp 56],none⟩,⟨some 51,.move (.tmp 57),none⟩,⟨some 58,.extract (.tmp 51) 0,none⟩,⟨some 59,.extract (.tmp 51) 1,none⟩,⟨some 9,.alloc [.slice none 0 0,.slice none 0 0],none⟩,⟨none,.store 2 (.tmp 9) (.tmp 58),none⟩,⟨some 10,.move (.tmp 59),none⟩]) (.seq (.ops [⟨some 60,.ak 2 (.tmp 9),none⟩,⟨some 61,.move (.tmp 10),none⟩,⟨some 62,.bin .eql (.tmp 61) (.const (.int .i64 0)),none⟩,⟨none,.store 2 (.tmp 4) (.tmp 60),none⟩,⟨some 5,.move (.tmp 62),none⟩]) (.ret))) (.seq (.ops [⟨some 64,.bin .eql (.tmp 12) (.const (.int .i64 5)),none⟩,⟨some 63,.move (.tmp 64),none⟩]) (.cond (.tmp 63) (.seq (.ops [⟨some 65,.ak 2 (.tmp 2),none⟩,⟨some 66,.fieldAddr 1 (.tmp 3),none⟩,⟨some 67,.ah (.tmp 66),none⟩,⟨some 68,.fieldAddr 2 (.tmp 3),none⟩,⟨some 69,.ah (.tmp 68),none⟩,⟨some 70,.call (F 370) [.tmp 65,.tmp 67,.tmp 69],none⟩,⟨some 71,.extract (.tmp 70) 0,none⟩,⟨some 72,.extract (.tmp 70) 1,none⟩,⟨none,.store 2 (.tmp 4) (.tmp 71),none⟩,⟨some 5,.move (.tmp 72),none⟩]) (.ret)) (.seq (.ops [⟨some 74,.bin .eql (.tmp 12) (.const (.int .i64 6)),none⟩,⟨some 73,.move (.tmp 74),none⟩]) (.cond (.tmp 73) (.seq (.ops [⟨some 75,.ak 2 (.tmp 2),none⟩,⟨some 76,.fieldAddr 1 (.tmp 3),none⟩,⟨some 77,.ah (.tmp 76),none⟩,⟨some 78,.call (F 371) [.tmp 75,.tmp 77],none⟩,⟨some 79,.extract (.tmp 78) 0,none⟩,⟨some 80,.extract (.tmp 78) 1,none⟩,⟨none,.store 2 (.tmp 4) (.tmp 79),none⟩,⟨some 5,.move (.tmp 80),none⟩]) (.ret)) (.skip))))))))))))))))) (.seq (.ops [⟨some 81,.ak 2 (.tmp 2),none⟩,⟨none,.store 2 (.tmp 4) (.tmp 81),none⟩,⟨some 5,.move (.const (.bool false)),none⟩]) (.ret)))⟩
structure HV (c:Ctx):Prop where
 xW:c.IP (c.F 373)=some (iZ c.F c.Ty)
 HZ:c.IP (c.F 374)=some (bU c.F c.Ty)
section
attribute [local simp] J0 J1 J2 J3 J4 J5 J6 J7 J8 J9 Ja Jb Jc Jd Je Jf Jg Jh Ji Jj Jk Jl Jm Jn Jo Jp Jq Jr Js Jt Ju Jv Jw Jx Jy Jz JA JB JC JD JE JF JG JH JI JJ JK JL JM JN JO JP JQ JR JS aQ bZ.kind JT JU JV JW JX JY JZ Y0 Y1 Y2 Y3 Y4 Y5 Y6 Y7 Y8 Y9 Ya Yb Yc Yd Ye Yf Yg Yh Yi Yj Yk Yl Ym Yn Yo Yp Yq jq Yr Ys Yt Yu Yv Yw Yx Yy dZ bA bE Yz YA YB YC YD YE eO YF YG YH YI YJ YK YL YM YN YO YP YQ YR YS YT YU nP bK jR nG bu putAt aa.ah aa.aP aa.aK YV YW YX YY YZ B0 B1 B2 B3 B4 B5 B6 B7 B8 B9 Ba Bb Bc Bd Be Bf Bg Bh Bi Bj Bk Bl Bm Bn Bo Bp
section
section
variable (c:Ctx) (mM:dw c) (hQ:bN c) (h16:dS c) (En:eF c) (h19:dU c) (h20:eG c) (h21:fM c) (h22:mH c) (hL:HV c) {H:aa} {K:Value→aa→Prop} {D:Nat→Prop}
include mM hQ h16 En h19 h20 h21 h22 hL in
theorem Xz {S:DT}{vl vw:Value}{d:yg}(h:iw D H S vl vw)(hf: ∀R ∈ S.R,R.fit)(hN: ∀x ∈ S.way,0≤x.to∧x.to<S.R.length∧x.ai.length≤1024)(h7:S.R.length≤1000)(hw:S.way.length≤1024)
 (hlen: ∀(R:DR) (x:az),R ∈ S.R→x ∈ S.way→(R.take x).2.length≤100000)
 (hK: ∀zY uq H',H.le H'→iw (Nw D H H') H' (S.wP d).1 zY uq→K (.tuple #[.agg #[zY,uq],.bool (S.wP d).2]) H'):
 c.C (c.F Ep) [.agg #[vl,vw],.agg #[.int .i64 d.kind,.int .i64 d.a,.int .i64 d.b,.string d.text]] H K:=by
 refine c.enter hL.HZ rfl ?_
 obtain⟨la,lc,wa,wc,rfl,rfl⟩:=h.cut
 obtain⟨H0,hH0⟩: ∃X:aa,X=((H.alloc (.cells [.slice la S.R.length lc,.slice wa S.way.length wc] false)).alloc (.cells [.int .i64 d.kind,.int .i64 d.a,.int .i64 d.b,.string d.text] false)).alloc (.cells [.slice none 0 0,.slice none 0 0] false):=⟨_,rfl⟩
 have k0:H.le H0:=by rw[hH0];exact((H.aj _).alloc _).alloc _
 have n0:H0.next=H.next+3:=by rw[hH0];rfl
 have g0:H0.get H.next=some (.cells [.slice la S.R.length lc,.slice wa S.way.length wc] false):=by rw[hH0];simp only[YV,YW,YX,YY];repeat (first|rw[if_pos trivial]|rw[if_pos (by omega)]|rw[if_neg (by omega)])
 have g1:H0.get (H.next+1)=some (.cells [.int .i64 d.kind,.int .i64 d.a,.int .i64 d.b,.string d.text] false):=by rw[hH0];simp only[YV,YW,YX,YY];repeat (first|rw[if_pos trivial]|rw[if_pos (by omega)]|rw[if_neg (by omega)])
 have g2:H0.get (H.next+2)=some (.cells [.slice none 0 0,.slice none 0 0] false):=by rw[hH0];simp only[YV,YW,YX,YY];repeat (first|rw[if_pos trivial]|rw[if_pos (by omega)]|rw[if_neg (by omega)])
 have hb0:iw (fun b=>D b∧b<H.next) H0 S (.slice la S.R.length lc) (.slice wa S.way.length wc):=h.below.le k0
 have fin: ∀(Q:aa) (S':DT) (r:Bool) (zY uq:Value) (o:fK),H0.le Q→iw (Nw (fun b=>D b∧b<H.next) H0 Q) Q S' zY uq→S.wP d=(S',r)→K (.tuple #[.agg #[zY,uq],.bool r]) (Q.set (H.next+2) o):=by
  intro Q S' r zY uq o kQ hi e
  have nQ:=kQ.next
  rw[e]at hK
  refine hK _ _ _ ((k0.trans kQ).set (by omega) _) ?_
  refine(hi.fr ((Fr.refl (fun b=>b=H.next+2) Q).set (.inl rfl) o) (fun b hb hn=> ?_)).weak fun b hb=> ?_
  ·have hn:b=H.next+2:=hn
   rcases hb with hb|hb <;> omega
  ·rcases hb with hb|hb
   ·exact .inl hb.1
   ·exact .inr ⟨by omega,hb.2⟩
 have same: ∀(Q:aa) (o:fK),H0.le Q→S.wP d=(S,false)→K (.tuple #[.agg #[.slice la S.R.length lc,.slice wa S.way.length wc],.bool false]) (Q.set (H.next+2) o):=fun Q o kQ e=>fin Q S false _ _ o kQ ((hb0.le kQ).weak fun b z=>.inl z) e
 have up: ∀{Q:aa},H0.le Q→Q.get H.next=some (.cells [.slice la S.R.length lc,.slice wa S.way.length wc] false)∧Q.get (H.next+1)=some (.cells [.int .i64 d.kind,.int .i64 d.a,.int .i64 d.b,.string d.text] false)∧Q.get (H.next+2)=some (.cells [.slice none 0 0,.slice none 0 0] false)∧H0.next≤Q.next:=fun k=>⟨(k.get _ (by omega)).trans g0,(k.get _ (by omega)).trans g1,(k.get _ (by omega)).trans g2,k.next⟩
 by_cases e0:d.kind=0
 ·simp -implicitDefEqProofs [bU,←hH0,g0,g1,eq_true e0]
  refine av (Rl c mM hQ h16 En h19 h20 h21 h22 (i:=d.a) hb0 hf hN h7 hw hlen (fun hz H1 k1=> ?_) (fun p x R hp hx hR zY uq H1 k1 i1=> ?_))
  ·obtain⟨x0,x1,x2,n1⟩:=up k1
   simp -implicitDefEqProofs [x2]
   exact same H1 _ k1 (by unfold DT.wP;rw[if_pos e0,if_pos hz])
  ·obtain⟨x0,x1,x2,n1⟩:=up k1
   obtain⟨la',PI,Mi,wc',rfl,rfl⟩:=i1.cut
   simp -implicitDefEqProofs [x2]
   have hpl:S.place d.a=p:=by unfold DT.place;omega
   exact fin H1 _ true _ _ _ k1 i1 (by
    unfold DT.wP
    rw[if_pos e0,if_neg (fun hz=>by rw[hz]at hx;simp at hx),hpl,hx]
    simp only[hR])
 by_cases e1:d.kind=1
 ·simp -implicitDefEqProofs [bU,←hH0,g0,g1,e0,eq_true e1]
  refine av (Rk c h16 h22 (i:=d.a) hb0 hw (fun hz H1 k1=> ?_) (fun p x hp hx uq ua uc H1 k1 i1 s1=> ?_))
  ·obtain⟨x0,x1,x2,n1⟩:=up k1
   obtain⟨Q,Po⟩: ∃X:aa,X=(((H1.alloc (.cells [.slice none 0 0,.slice none 0 0] false)).alloc (.cells [.int .i64 0,.int .i64 0,.int .i64 0,.int .i64 0,.int .i64 0,.int .i64 0,.slice none 0 0] false)).set H1.next (.cells [.slice la S.R.length lc,.slice wa S.way.length wc] false)).set (H1.next+1) (.cells [.int .i64 0,.int .i64 0,.int .i64 0,.int .i64 0,.int .i64 0,.int .i64 0,.slice none 0 0] false):=⟨_,rfl⟩
   have kQ:H1.le Q:=by rw[Po];exact(((H1.aj _).alloc _).set (Nat.le_refl _) _).set (by omega) _
   have b1:Q.get H1.next=some (.cells [.slice la S.R.length lc,.slice wa S.way.length wc] false):=by rw[Po];simp only[YV,YW,YX,YY];repeat (first|rw[if_pos trivial]|rw[if_pos (by omega)]|rw[if_neg (by omega)])
   have b2:=(kQ.get (H.next+2) (by omega)).trans x2
   simp -implicitDefEqProofs [←Po,b1,b2]
   exact same Q _ (k1.trans kQ) (by unfold DT.wP;rw[if_neg e0,if_pos e1,if_pos hz])
  ·obtain⟨x0,x1,x2,n1⟩:=up k1
   obtain⟨la',PI,Mi,wc',q1,rfl⟩:=i1.cut
   have i1:iw (Nw (fun b=>D b∧b<H.next) H0 H1) H1 ⟨S.R,S.way.eraseIdx p⟩ (.slice la S.R.length lc) (.slice Mi (S.way.eraseIdx p).length wc'):=i1
   obtain⟨Q,Po⟩: ∃X:aa,X=(((H1.alloc (.cells [.slice none 0 0,.slice none 0 0] false)).alloc (.cells [.int .i64 0,.int .i64 0,.int .i64 0,.int .i64 0,.int .i64 0,.int .i64 0,.slice none 0 0] false)).set H1.next (.cells [.slice la S.R.length lc,.slice Mi (S.way.eraseIdx p).length wc'] false)).set (H1.next+1) (.cells [.int .i64 x.kind,.int .i64 x.fr,.int .i64 x.to,.int .i64 x.slot,.int .i64 x.ba,.int .i64 x.bn,.slice ua x.ai.length uc] false):=⟨_,rfl⟩
   have kQ:H1.le Q:=by rw[Po];exact(((H1.aj _).alloc _).set (Nat.le_refl _) _).set (by omega) _
   have b1:Q.get H1.next=some (.cells [.slice la S.R.length lc,.slice Mi (S.way.eraseIdx p).length wc'] false):=by rw[Po];simp only[YV,YW,YX,YY];repeat (first|rw[if_pos trivial]|rw[if_pos (by omega)]|rw[if_neg (by omega)])
   have b2:=(kQ.get (H.next+2) (by omega)).trans x2
   have nQ:=kQ.next
   simp -implicitDefEqProofs [aC,←Po,b1,b2]
   have hpl:S.place d.a=p:=by unfold DT.place;omega
   exact fin Q _ true _ _ _ (k1.trans kQ) ((i1.le kQ).weak fun b hb=>by
    rcases hb with hb|hb
    ·exact .inl hb
    ·exact .inr ⟨hb.1,by omega⟩) (by
    unfold DT.wP
    rw[if_neg e0,if_pos e1,if_neg (fun hz=>by rw[hz]at hx;simp at hx),hpl])
 by_cases e2:d.kind=2
 ·simp -implicitDefEqProofs [bU,←hH0,g0,g1,e0,e1,eq_true e2]
  refine av (Ta c h16 h22 (i:=d.a) hb0 (fun hz H1 k1=> ?_) (fun p x hp hl hx uq H1 k1 i1=> ?_))
  ·obtain⟨x0,x1,x2,n1⟩:=up k1
   simp -implicitDefEqProofs [x2]
   exact same H1 _ k1 (by unfold DT.wP;rw[if_neg e0,if_neg e1,if_pos e2,if_pos hz])
  ·obtain⟨x0,x1,x2,n1⟩:=up k1
   obtain⟨la',PI,Mi,wc',q1,rfl⟩:=i1.cut
   have i1:iw (Nw (fun b=>D b∧b<H.next) H0 H1) H1 ⟨S.R,S.way++[x]⟩ (.slice la S.R.length lc) (.slice Mi (S.way++[x]).length wc'):=i1
   rw[show(S.way++[x]).length=S.way.length+1 by simp]at i1
   simp -implicitDefEqProofs [x2]
   have hpl:S.place d.a=p:=by unfold DT.place;omega
   exact fin H1 _ true _ _ _ k1 i1 (by
    unfold DT.wP
    rw[if_neg e0,if_neg e1,if_pos e2,if_neg (fun hz=>by rcases hz with hz|hz;rw[hz]at hx;simp at hx;omega),hpl,hx])
 by_cases e3:d.kind=3
 ·simp -implicitDefEqProofs [bU,←hH0,g0,g1,e0,e1,e2,eq_true e3]
  refine av (Xy c mM h16 En h19 h20 h21 h22 (i:=d.a) hb0 hf h7 hw (fun hz H1 k1=> ?_) (fun R hR zY uq H1 k1 i1=> ?_))
  ·obtain⟨x0,x1,x2,n1⟩:=up k1
   simp -implicitDefEqProofs [x2]
   exact same H1 _ k1 (by unfold DT.wP;rw[if_neg e0,if_neg e1,if_neg e2,if_pos e3,hz])
  ·obtain⟨x0,x1,x2,n1⟩:=up k1
   obtain⟨la',PI,Mi,wc',rfl,rfl⟩:=i1.cut
   simp -implicitDefEqProofs [x2]
   exact fin H1 _ true _ _ _ k1 i1 (by unfold DT.wP;rw[if_neg e0,if_neg e1,if_neg e2,if_pos e3,hR])
 by_cases e4:d.kind=4
 ·simp -implicitDefEqProofs [bU,←hH0,g0,g1,e0,e1,e2,e3,eq_true e4]
  refine av (Ri c h19 h21 h22 (i:=d.a) (s:=d.text) hb0 hf h7 hw (fun hz H1 k1=> ?_) (fun R hR hne H1 k1=> ?_) (fun R hR hz zY uq H1 k1 i1=> ?_))
  ·obtain⟨x0,x1,x2,n1⟩:=up k1
   obtain⟨Q,Po⟩: ∃X:aa,X=(H1.alloc (.cells [.slice none 0 0,.slice none 0 0] false)).set H1.next (.cells [.slice la S.R.length lc,.slice wa S.way.length wc] false):=⟨_,rfl⟩
   have kQ:H1.le Q:=by rw[Po];exact(H1.aj _).set (Nat.le_refl _) _
   have b1:Q.get H1.next=some (.cells [.slice la S.R.length lc,.slice wa S.way.length wc] false):=by rw[Po];simp only[YV,YW,YX,YY];repeat (first|rw[if_pos trivial]|rw[if_pos (by omega)]|rw[if_neg (by omega)])
   have b2:=(kQ.get (H.next+2) (by omega)).trans x2
   simp -implicitDefEqProofs [←Po,b1,b2]
   exact same Q _ (k1.trans kQ) (by unfold DT.wP;rw[if_neg e0,if_neg e1,if_neg e2,if_neg e3,if_pos e4,hz])
  ·obtain⟨x0,x1,x2,n1⟩:=up k1
   obtain⟨Q,Po⟩: ∃X:aa,X=(H1.alloc (.cells [.slice none 0 0,.slice none 0 0] false)).set H1.next (.cells [.slice la S.R.length lc,.slice wa S.way.length wc] false):=⟨_,rfl⟩
   have kQ:H1.le Q:=by rw[Po];exact(H1.aj _).set (Nat.le_refl _) _
   have b1:Q.get H1.next=some (.cells [.slice la S.R.length lc,.slice wa S.way.length wc] false):=by rw[Po];simp only[YV,YW,YX,YY];repeat (first|rw[if_pos trivial]|rw[if_pos (by omega)]|rw[if_neg (by omega)])
   have b2:=(kQ.get (H.next+2) (by omega)).trans x2
   simp -implicitDefEqProofs [←Po,b1,b2,hne]
   exact same Q _ (k1.trans kQ) (by unfold DT.wP;rw[if_neg e0,if_neg e1,if_neg e2,if_neg e3,if_pos e4,hR];simp only;rw[if_neg hne])
  ·obtain⟨x0,x1,x2,n1⟩:=up k1
   obtain⟨la',PI,Mi,wc',rfl,rfl⟩:=i1.cut
   obtain⟨S',hS'⟩: ∃S',S'=S.say d.a.toNat ((R.ax d.text).1,(R.ax d.text).2.1):=⟨_,rfl⟩
   rw[←hS']at i1 ⊢
   obtain⟨Q,Po⟩: ∃X:aa,X=(H1.alloc (.cells [.slice none 0 0,.slice none 0 0] false)).set H1.next (.cells [.slice la' S'.R.length PI,.slice Mi S'.way.length wc'] false):=⟨_,rfl⟩
   have kQ:H1.le Q:=by rw[Po];exact(H1.aj _).set (Nat.le_refl _) _
   have b1:Q.get H1.next=some (.cells [.slice la' S'.R.length PI,.slice Mi S'.way.length wc'] false):=by rw[Po];simp only[YV,YW,YX,YY];repeat (first|rw[if_pos trivial]|rw[if_pos (by omega)]|rw[if_neg (by omega)])
   have b2:=(kQ.get (H.next+2) (by omega)).trans x2
   have nQ:=kQ.next
   simp -implicitDefEqProofs [←Po,b1,b2]
   exact fin Q _ true _ _ _ (k1.trans kQ) ((i1.le kQ).weak fun b hb=>by
    rcases hb with hb|hb
    ·exact .inl hb
    ·exact .inr ⟨hb.1,by omega⟩) (by
    unfold DT.wP
    rw[if_neg e0,if_neg e1,if_neg e2,if_neg e3,if_pos e4,hR]
    simp only
    rw[if_pos hz,hS'])
 by_cases e5:d.kind=5
 ·simp -implicitDefEqProofs [bU,←hH0,g0,g1,e0,e1,e2,e3,e4,eq_true e5]
  refine av (ZH c h20 h21 h22 (i:=d.a) (i2:=d.b) hb0 hf h7 hw (fun hz H1 k1=> ?_) (fun R hR hR2 zY uq H1 k1 i1=> ?_))
  ·obtain⟨x0,x1,x2,n1⟩:=up k1
   simp -implicitDefEqProofs [x2]
   refine same H1 _ k1 ?_
   unfold DT.wP
   rw[if_neg e0,if_neg e1,if_neg e2,if_neg e3,if_neg e4,if_pos e5]
   cases ha:S.at d.a with
   |none=>rfl
   |some R=>
    rw[ha]at hz
    simp only
    rw[if_pos (hz.resolve_left (by simp))]
  ·obtain⟨x0,x1,x2,n1⟩:=up k1
   obtain⟨la',PI,Mi,wc',rfl,rfl⟩:=i1.cut
   simp -implicitDefEqProofs [x2]
   exact fin H1 _ true _ _ _ k1 i1 (by
    unfold DT.wP
    rw[if_neg e0,if_neg e1,if_neg e2,if_neg e3,if_neg e4,if_pos e5,hR]
    simp only
    rw[if_neg hR2])
 by_cases e6:d.kind=6
 ·simp -implicitDefEqProofs [bU,←hH0,g0,g1,e0,e1,e2,e3,e4,e5,eq_true e6]
  refine av (Vg c hQ h19 h20 h21 h22 (i:=d.a) hb0 hf h7 hw (fun hz H1 k1=> ?_) (fun R hR zY uq H1 k1 i1=> ?_))
  ·obtain⟨x0,x1,x2,n1⟩:=up k1
   simp -implicitDefEqProofs [x2]
   exact same H1 _ k1 (by unfold DT.wP;rw[if_neg e0,if_neg e1,if_neg e2,if_neg e3,if_neg e4,if_neg e5,if_pos e6,hz])
  ·obtain⟨x0,x1,x2,n1⟩:=up k1
   obtain⟨la',PI,Mi,wc',rfl,rfl⟩:=i1.cut
   simp -implicitDefEqProofs [x2]
   exact fin H1 _ true _ _ _ k1 i1 (by unfold DT.wP;rw[if_neg e0,if_neg e1,if_neg e2,if_neg e3,if_neg e4,if_neg e5,if_pos e6,hR])
 ·simp -implicitDefEqProofs [bU,←hH0,g0,g1,g2,e0,e1,e2,e3,e4,e5,e6]
  exact same H0 _ (aa.le_refl _) (by unfold DT.wP;rw[if_neg e0,if_neg e1,if_neg e2,if_neg e3,if_neg e4,if_neg e5,if_neg e6])
end
end
end
section
def qcB (Q:ByteArray→Prop)(R:Rp):Prop:=(∀v ∈ R.A.L,Q v.val)∧(∀s v,R.P.best s=some v→Q v.val)∧∀s x,R.L.told s=some x→Q x
def qcC (Q:ByteArray→Prop)(l:List az):Prop:=∀y ∈ l,∀v ∈ y.ai,Q v.val
def qaY (Q:ByteArray→Prop)(S:Tp):Prop:=(∀R ∈ S.R,qcB Q R)∧qcC Q S.way
section
variable {Q:ByteArray→Prop} (h0:Q Pz)
theorem Tp.at_mem {S:Tp}{i:Int}{R:Rp}(h:S.at i=some R):R ∈ S.R:=List.mem_of_getElem? (Tp.kR h).2.2
end
theorem qaY.mono {Q Q':ByteArray→Prop}{S:Tp}(h:qaY Q S)(k: ∀x,Q x→Q' x):qaY Q' S:=
 ⟨fun R hR=>⟨fun v hv=>k _ ((h.1 R hR).1 v hv),fun s v hs=>k _ ((h.1 R hR).2.1 s v hs),fun s x hs=>k _ ((h.1 R hR).2.2 s x hs)⟩,fun y hy v hv=>k _ (h.2 y hy v hv)⟩
end
section
theorem XA {H:aa}{v:Value}{l:List yg}(hv:qJ H 4 v (l.map EU)){i:Nat}{d:yg}(hd:l[i]? =some d):
 ∃b o cap cs ro,v = .slice (some ⟨b,o,none⟩) l.length cap∧b<H.next∧H.get b=some (.cells cs ro)∧(cs.drop (o+i*4)).take 4=[.int .i64 d.kind,.int .i64 d.a,.int .i64 d.b,.string d.text]∧o+i*4+4≤cs.length ∧
  cs[o+i*4]? =some (.int .i64 d.kind)∧cs[o+i*4+3]? =some (.string d.text):=by
 obtain⟨b,o,cap,cs,ro,e,hb,hg,_,hrow,hbd⟩:=hv.at (i:=i) (r:=EU d) (by rw[List.getElem?_map,hd];rfl)
 rw[List.length_map]at e
 have e0:=Dy hrow 0 (by omega)
 have e3:=Dy hrow 3 (by omega)
 exact⟨b,o,cap,cs,ro,e,hb,hg,hrow,hbd,e0,e3⟩
section
variable (c:Ctx) (hc:jm c) (hN:qV c) (hL:vU c) {H:aa} {K:Value→aa→Prop}
end
end
end Go.Proofs.YtpbbjfighohokaaGreatI
