/- A node: a note is taken. / A node: a crash; one that is none. / A node alone: it takes what it says. / A node: what stays right; how much it says. / A node: what it asks for by one ballot is one vote a slot. -/
import Derived.Test.YtpbbjfighohokaaGreatRpH
namespace Go.Proofs.YtpbbjfighohokaaGreatI
open Go
set_option linter.unusedSimpArgs false
set_option linter.unusedVariables false
section
attribute [local simp] J0 J1 J2 J3 J4 J5 J6 J7 J8 J9 Ja Jb Jc Jd Je Jf Jg Jh Ji Jj Jk Jl Jm Jn Jo Jp Jq Jr Js Jt Ju Jv Jw Jx Jy Jz JA JB JC JD JE JF JG JH JI JJ JK JL JM JN JO JP JQ JR JS aQ bZ.kind JT JU JV JW JX JY JZ Y0 Y1 Y2 Y3 Y4 Y5 Y6 Y7 Y8 Y9 Ya Yb Yc Yd Ye Yf Yg Yh Yi Yj Yk Yl Ym Yn Yo Yp Yq jq Yr Ys Yt Yu Yv Yw Yx Yy dZ bA bE Yz YA YB YC YD YE eO YF YG YH YI YJ YK YL YM YN YO YP YQ YR YS YT YU nP bK jR nG bu putAt aa.ah aa.aP aa.aK YV YW YX YY YZ B0 B1 B2 B3 B4 B5 B6 B7 B8 B9 Ba Bb Bc Bd Be Bf Bg Bh Bi Bj Bk Bl Bm Bn Bo Bp
section
def Rp.accept (R:Rp)(v:ay):Rp×List az:=
 ({R with P:=(R.P.step v.a v.n).1,A:=(R.A.accept v).1},if (R.A.accept v).2 then lQ R (cB 4 v)else [])
def tells (L:Lr)(l:List ay):Lr:=l.foldl (fun L v=>if mQ L v.slot v.val=true then L.tell v.slot v.val else L) L
def Rp.take (R:Rp)(x:az):Rp×List az:=
 if R.isNode x.fr=false∨x.to≠R.me then (R,[])
 else if x.kind=1 then R.bQ x else if x.kind=2 then R.promise x
 else if x.kind=3∧x.ai.length=1 then R.accept (gF x.ai)
 else if x.kind=4∧x.ai.length=1 then ({R with L:=(R.L.hear x.fr (gF x.ai)).1},[])
 else if x.kind=5 then (R,R.tell x)else if x.kind=6 then ({R with L:=tells R.L x.ai},[])else (R,[])
theorem WM {A:Acc}(h:Nl A)(v:ay):Nl (A.accept v).1:=by
 unfold Acc.accept
 split
 ·exact h
 ·rename_i hc
  simp only[not_or,Bool.not_eq_false]at hc
  obtain⟨c1,c2,c3,c4⟩:=hc
  have hv:bJ v.a v.n=true:=by
   unfold Acc.may at c1
   simp only[Bool.and_eq_true]at c1
   exact c1.1
  have hsz:v.val.data.toList.length=v.val.size:=rfl
  obtain⟨h1,h2,h3,h4⟩:=h
  refine⟨h1,h2,hv,fun w hw=> ?_⟩
  have hw':w ∈ xG A.L v:=hw
  unfold xG at hw'
  simp only[List.mem_append,List.mem_filter,List.mem_cons,decide_eq_true_eq]at hw'
  rcases hw' with hw'|rfl|hw'
  ·exact h4 w hw'.1
  ·exact⟨by show A.base≤w.slot;omega,by omega,hv,by omega⟩
  ·exact h4 w hw'.1
theorem zO {A:Acc}(h:Nl A)(a n s:Int):Nl (A.promise a n s).1:=by
 unfold Acc.promise
 split
 ·exact h
 ·rename_i hc
  simp only[not_or,Bool.not_eq_false]at hc
  have hv:bJ a n=true:=by
   have c1:=hc.1
   unfold Acc.may at c1
   simp only[Bool.and_eq_true]at c1
   exact c1.1
  exact⟨h.1,h.2.1,hv,h.2.2.2⟩
section
variable (c:Ctx) (hc:qV c) {H:aa} {K:Value→aa→Prop} {B:Nat→Prop} {p:Nat} {R:Rp}
theorem wO.lt' (h:wO B H p R):p<H.next:=by obtain⟨_,_,_,_,_,_,h,_⟩:=h;exact h.lt
theorem wO.gets (h:wO B H p R): ∃y z w,H.get p=some (.cells [.int .i64 R.n,.int .i64 R.me,y,z,w] false):=by obtain⟨_,_,_,_,_,_,h,_⟩:=h;exact⟨_,_,_,h.get⟩
theorem Said.of {H0 H H':aa}{R':Rp}{l:List az}{v:Value}(h:Said B H p R' l v H')(k:H0.le H)(hl: ∀b,B b→b<H0.next):Said B H0 p R' l v H':=by
 obtain⟨B',h1,h2,h3,h4⟩:=h
 have:=k.next
 exact⟨B',k.lq h1,fun b hb=>(h2 b hb).imp id fun z=>by omega,h3,h4.weak fun b hb=>⟨by omega,hb.2⟩⟩
include hc in
theorem WN {x:az}{u:Value}{D:Nat→Prop}(h:wO B H p R)(ho:R.ok)(hu:eP D H 4 u (x.ai.map aG))(hD: ∀b,D b→¬ B b)(hvl:x.ai.length≤1000000)(hK: ∀v H',Said B H p (R.take x).1 (R.take x).2 v H'→K v H'):
 c.C (c.F xJ) [.pointer (some ⟨p,0,none⟩),.agg (aC x u).toArray] H K:=by
 refine c.enter hc.rep.zI rfl ?_
 have hnd:=hc.ty
 simp only[List.nodup_cons,List.mem_cons,List.not_mem_nil,or_false,not_or]at hnd
 obtain⟨⟨d1,d2,d3,d4,d5⟩,⟨d6,d7,d8,d9⟩,⟨d10,d11,d12⟩,⟨d13,d14⟩,d15,_⟩:=hnd
 have sym: ∀{a b:TypeId},¬ a=b→¬ b=a:=fun h e=>h e.symm
 have d1:=sym d1;have d2:=sym d2;have d3:=sym d3;have d4:=sym d4;have d5:=sym d5;have d6:=sym d6;have d7:=sym d7;have d8:=sym d8;have d9:=sym d9
 have d10:=sym d10;have d11:=sym d11;have d12:=sym d12;have d13:=sym d13;have d14:=sym d14;have d15:=sym d15
 have hlt:=h.lt'
 have hBl:=h.lt
 obtain⟨H0,hH0⟩: ∃X:aa,X=H.alloc (.cells (aC x u) false):=⟨_,rfl⟩
 have k0:H.le H0:=by rw[hH0];exact H.aj _
 have n0:H0.next=H.next+1:=by rw[hH0];rfl
 have b0:H0.get H.next=some (.cells (aC x u) false):=by rw[hH0,YV,if_pos rfl]
 have fV:H.alloc (.cells [.int .i64 x.kind,.int .i64 x.fr,.int .i64 x.to,.int .i64 x.slot,.int .i64 x.ba,.int .i64 x.bn,u] false)=H0:=by rw[hH0];rfl
 simp only[aC]at b0
 obtain⟨ua,si,hue⟩:=hu.2.len
 have ou:u.cells = #[u]:=by rw[hue];rfl
 have ou1:cO u=true:=by rw[hue];rfl
 have h0:=h.le k0
 obtain⟨y,z,w,g0⟩:=h0.gets
 simp -implicitDefEqProofs [jK,aC,fV,b0]
 refine aI c.mono (QH c hc h0 ?_)
 have stay: ∀H',H.le H'→R.take x=(R,[])→K (.slice none 0 0) H':=by
  intro H' k ht
  rw[ht]at hK
  exact hK _ H' ⟨B,k.fr B,fun b hb=>.inl hb,h.le k,gB.nil _ _⟩
 cases hn:R.isNode x.fr with
 |false=>
  simp -implicitDefEqProofs []
  exact stay H0 k0 (by unfold Rp.take;rw[if_pos (.inl hn)])
 |true=>
  by_cases hme:x.to=R.me
  ·have hgo: ¬ (R.isNode x.fr=false∨x.to≠R.me):=by rw[hn];simp[hme]
   simp -implicitDefEqProofs [b0,g0,hme,-J5]
   rw[←hme]
   refine av (WJ c hc (x:=x) (hu.le k0) fun H1 k1=> ?_)
   have nI:=k0.trans k1
   have h1:=h.le nI
   have hu1:=hu.le nI
   obtain⟨y1,z1,w1,g1⟩:=h1.gets
   have n1:=k1.next
   by_cases q1:x.kind=1
   ·have e:eZ c x u = .iface (c.Ty 7) (.agg (aC x u).toArray):=by unfold eZ;rw[if_pos q1]
    have et:R.take x=R.bQ x:=by unfold Rp.take;rw[if_neg hgo,if_pos q1]
    rw[e]
    rw[et]at hK
    obtain⟨H2,hH2⟩: ∃X:aa,X=(H1.alloc (.cells [.int .i64 0,.int .i64 0,.int .i64 0,.int .i64 0,.int .i64 0,.int .i64 0,.slice none 0 0] false)).set H1.next (.cells [.int .i64 x.kind,.int .i64 x.fr,.int .i64 x.to,.int .i64 x.slot,.int .i64 x.ba,.int .i64 x.bn,u] false):=⟨_,rfl⟩
    have k2:H1.le H2:=by rw[hH2];exact(H1.aj _).set (Nat.le_refl _) _
    have b2:H2.get H1.next=some (.cells [.int .i64 x.kind,.int .i64 x.fr,.int .i64 x.to,.int .i64 x.slot,.int .i64 x.ba,.int .i64 x.bn,u] false):=by rw[hH2,YW,if_pos rfl]
    simp -implicitDefEqProofs [aC,ou1,←hH2,b2]
    refine av (QJ c hc (x:=x) (u:=u) (h1.le k2) ho fun v H3 sd=> ?_)
    simp -implicitDefEqProofs []
    exact hK v H3 (sd.of (nI.trans k2) hBl)
   ·by_cases q2:x.kind=2
    ·have e:eZ c x u = .iface (c.Ty 8) (.agg (aC x u).toArray):=by unfold eZ;rw[if_neg q1,if_pos q2]
     have et:R.take x=R.promise x:=by unfold Rp.take;rw[if_neg hgo,if_neg q1,if_pos q2]
     rw[e]
     rw[et]at hK
     obtain⟨H2,hH2⟩: ∃X:aa,X=(H1.alloc (.cells [.int .i64 0,.int .i64 0,.int .i64 0,.int .i64 0,.int .i64 0,.int .i64 0,.slice none 0 0] false)).set H1.next (.cells [.int .i64 x.kind,.int .i64 x.fr,.int .i64 x.to,.int .i64 x.slot,.int .i64 x.ba,.int .i64 x.bn,u] false):=⟨_,rfl⟩
     have k2:H1.le H2:=by rw[hH2];exact(H1.aj _).set (Nat.le_refl _) _
     have b2:H2.get H1.next=some (.cells [.int .i64 x.kind,.int .i64 x.fr,.int .i64 x.to,.int .i64 x.slot,.int .i64 x.ba,.int .i64 x.bn,u] false):=by rw[hH2,YW,if_pos rfl]
     simp -implicitDefEqProofs [aC,ou1,d1,←hH2,b2]
     refine av (QK c hc (x:=x) (u:=u) (h1.le k2) ho (hu1.le k2) hD hvl fun v H3 sd=> ?_)
     simp -implicitDefEqProofs []
     exact hK v H3 (sd.of (nI.trans k2) hBl)
    ·by_cases q3:x.kind=3∧x.ai.length=1
     ·obtain⟨v,hv⟩: ∃v,v=gF x.ai:=⟨_,rfl⟩
      have e:eZ c x u = .iface (c.Ty 9) (vV v):=by unfold eZ;rw[if_neg q1,if_neg q2,if_pos q3,hv]
      have et:R.take x=R.accept v:=by unfold Rp.take;rw[if_neg hgo,if_neg q1,if_neg q2,if_pos q3,hv]
      rw[e]
      rw[et]at hK
      unfold Rp.accept at hK
      obtain⟨H2,hH2⟩: ∃X:aa,X=(H1.alloc (.cells [.int .i64 0,.int .i64 0,.int .i64 0,.string ⟨#[]⟩] false)).set H1.next (.cells [.int .i64 v.slot,.int .i64 v.a,.int .i64 v.n,.string v.val] false):=⟨_,rfl⟩
      have k2:H1.le H2:=by rw[hH2];exact(H1.aj _).set (Nat.le_refl _) _
      have n2:H2.next=H1.next+1:=by rw[hH2];rfl
      have b2:H2.get H1.next=some (.cells [.int .i64 v.slot,.int .i64 v.a,.int .i64 v.n,.string v.val] false):=by rw[hH2,YW,if_pos rfl]
      have UH:=nI.trans k2
      obtain⟨pa,pp,pl,ig,jc,gL,ha,hB⟩:=h1.le k2
      have g2:=ha.get
      have nu: ¬ xO p ig jc gL H1.next:=fun hh=>by have:=hBl _ ((hB _).2 hh);omega
      simp -implicitDefEqProofs [vV,d2,d6,←hH2,b2,g2]
      refine aI c.mono (Qv c hc.ba hc.RB (a:=v.a) (n:=v.n) ha.q fun H3 f3 i3=> ?_)
      obtain⟨h3,f3',_⟩:=ha.RB f3 (fun b hb=>.inl hb) i3
      have n3:=f3.next
      have g3:=h3.get
      simp only at g3
      have b3:=(f3'.get H1.next (by omega) nu).trans b2
      simp -implicitDefEqProofs [g3,b3]
      refine aI c.mono (WB c hc.acc hc.ba hc.ins (v:=v) h3.a (Nat.le_trans (Ko ho.2.2.2.2 ha.a.sorted) (by omega)) fun H4 Bx4 f4 s4 a4=> ?_)
      obtain⟨h4,Z7,u4⟩:=h3.acc f4 s4 a4
      have n4:=f4.next
      have b4:=(Z7.get H1.next (by omega) nu).trans b3
      have F4:Fr (xO p ig jc gL) H H4:=UH.lq (f3'.trans Z7 fun b hb=>.inl hb)
      have S4: ∀b,xO p Bx4 jc gL b→B b∨H.next≤b:=fun b hb=>(u4 b hb).imp (hB b).2 fun z=>by have:=UH.next;omega
      cases ha2:(R.A.accept v).2 with
      |false=>
       rw[ha2,if_neg (by simp)]at hK
       simp -implicitDefEqProofs []
       exact hK _ H4 ⟨xO p Bx4 jc gL,F4.iff hB,S4,⟨pa,pp,pl,Bx4,jc,gL,h4,fun b=>Iff.rfl⟩,gB.nil _ _⟩
      |true=>
       rw[ha2,if_pos rfl]at hK
       have ho4:Rp.ok {R with P:=(R.P.step v.a v.n).1,A:=(R.A.accept v).1}:=by
        have hs:=SA R.P v.a v.n
        refine⟨ho.1.step v.a v.n,hs.1.trans ho.2.1,hs.2.trans ho.2.2.1,ho.2.2.2.1,?_⟩
        exact WM ho.2.2.2.2 v
       simp -implicitDefEqProofs [b4]
       refine av (LJ c hc (k:=4) (v:=v) (B:=xO p Bx4 jc gL) ⟨pa,pp,pl,Bx4,jc,gL,h4,fun b=>Iff.rfl⟩ ho4 fun w5 H5 k5 nt=> ?_)
       simp -implicitDefEqProofs []
       refine hK _ H5 ⟨xO p Bx4 jc gL,(F4.iff hB).jg k5,S4,⟨pa,pp,pl,Bx4,jc,gL,h4.le k5,fun b=>Iff.rfl⟩,nt.weak fun b hb=>⟨?_,hb.2,fun hh=>by have:=h4.zN b hh;omega⟩⟩
       have:=UH.next
       omega
     ·by_cases q4:x.kind=4∧x.ai.length=1
      ·obtain⟨v,hv⟩: ∃v,v=gF x.ai:=⟨_,rfl⟩
       have e:eZ c x u = .iface (c.Ty 10) (.agg #[.int .i64 x.fr,.int .i64 v.slot,.int .i64 v.a,.int .i64 v.n,.string v.val]):=by unfold eZ;rw[if_neg q1,if_neg q2,if_neg q3,if_pos q4,hv]
       have et:R.take x=({R with L:=(R.L.hear x.fr v).1},[]):=by unfold Rp.take;rw[if_neg hgo,if_neg q1,if_neg q2,if_neg q3,if_pos q4,hv]
       rw[e]
       rw[et]at hK
       obtain⟨H2,hH2⟩: ∃X:aa,X=(H1.alloc (.cells [.int .i64 0,.int .i64 0,.int .i64 0,.int .i64 0,.string ⟨#[]⟩] false)).set H1.next (.cells [.int .i64 x.fr,.int .i64 v.slot,.int .i64 v.a,.int .i64 v.n,.string v.val] false):=⟨_,rfl⟩
       have k2:H1.le H2:=by rw[hH2];exact(H1.aj _).set (Nat.le_refl _) _
       have b2:H2.get H1.next=some (.cells [.int .i64 x.fr,.int .i64 v.slot,.int .i64 v.a,.int .i64 v.n,.string v.val] false):=by rw[hH2,YW,if_pos rfl]
       obtain⟨pa,pp,pl,ig,jc,gL,ha,hB⟩:=h1.le k2
       have g2:=ha.get
       simp -implicitDefEqProofs [d3,d7,d10,←hH2,b2,g2]
       refine aI c.mono (qaA c hc.Vl hc.lT hc.lN hc.ba hc.bb (fr:=x.fr) (v:=v) ha.l fun H3 f3 l3=> ?_)
       obtain⟨h3,f3'⟩:=ha.lea f3 l3
       simp -implicitDefEqProofs []
       exact hK _ H3 ⟨B,(nI.trans k2).lq (f3'.iff hB),fun b hb=>.inl hb,⟨pa,pp,pl,ig,jc,gL,h3,hB⟩,gB.nil _ _⟩
      ·by_cases q5:x.kind=5
       ·have e:eZ c x u = .iface (c.Ty 11) (.agg (aC x u).toArray):=by unfold eZ;rw[if_neg q1,if_neg q2,if_neg q3,if_neg q4,if_pos q5]
        have et:R.take x=(R,R.tell x):=by unfold Rp.take;rw[if_neg hgo,if_neg q1,if_neg q2,if_neg q3,if_neg q4,if_pos q5]
        rw[e]
        rw[et]at hK
        obtain⟨H2,hH2⟩: ∃X:aa,X=(H1.alloc (.cells [.int .i64 0,.int .i64 0,.int .i64 0,.int .i64 0,.int .i64 0,.int .i64 0,.slice none 0 0] false)).set H1.next (.cells [.int .i64 x.kind,.int .i64 x.fr,.int .i64 x.to,.int .i64 x.slot,.int .i64 x.ba,.int .i64 x.bn,u] false):=⟨_,rfl⟩
        have k2:H1.le H2:=by rw[hH2];exact(H1.aj _).set (Nat.le_refl _) _
        have b2:H2.get H1.next=some (.cells [.int .i64 x.kind,.int .i64 x.fr,.int .i64 x.to,.int .i64 x.slot,.int .i64 x.ba,.int .i64 x.bn,u] false):=by rw[hH2,YW,if_pos rfl]
        simp -implicitDefEqProofs [aC,ou1,d4,d8,d11,d13,←hH2,b2]
        refine av (WL c hc (x:=x) (u:=u) (h1.le k2) fun v H3 k3 nt=> ?_)
        simp -implicitDefEqProofs []
        refine hK v H3 ⟨B,((nI.trans k2).trans k3).fr B,fun b hb=>.inl hb,h.le ((nI.trans k2).trans k3),nt.weak fun b hb=>⟨?_,hb.2,fun hh=> ?_⟩⟩
        ·have:=(nI.trans k2).next;omega
        ·have:=hBl b hh;have:=(nI.trans k2).next;omega
       ·by_cases q6:x.kind=6
        ·have e:eZ c x u = .iface (c.Ty 12) (.agg #[u]):=by unfold eZ;rw[if_neg q1,if_neg q2,if_neg q3,if_neg q4,if_neg q5,if_pos q6]
         have et:R.take x=({R with L:=tells R.L x.ai},[]):=by unfold Rp.take;rw[if_neg hgo,if_neg q1,if_neg q2,if_neg q3,if_neg q4,if_neg q5,if_pos q6]
         rw[e]
         rw[et]at hK
         obtain⟨H2,hH2⟩: ∃X:aa,X=(H1.alloc (.cells [.slice none 0 0] false)).set H1.next (.cells [u] false):=⟨_,rfl⟩
         have k2:H1.le H2:=by rw[hH2];exact(H1.aj _).set (Nat.le_refl _) _
         have b2:H2.get H1.next=some (.cells [u] false):=by rw[hH2,YW,if_pos rfl]
         obtain⟨pa,pp,pl,ig,jc,gL,ha,hB⟩:=h1.le k2
         have hu2:=hu1.le k2
         rw[List.length_map]at hue
         subst hue
         simp -implicitDefEqProofs [ou1,d5,d9,d12,d14,d15,←hH2,b2]
         refine aS c.mono (fun k T H'=> ∃j:Nat,j≤x.ai.length∧k=x.ai.length-j∧T 0 = .pointer (some ⟨p,0,none⟩)∧T 88 = .slice ua x.ai.length si∧T 89 = .int .i64 x.ai.length∧T 90 = .int .i64 j ∧
          Fr B H2 H'∧uM H' p pa pp pl ig jc gL {R with L:=tells R.L (x.ai.take j)}) x.ai.length ?_ ?_
         ·refine⟨0,by omega,rfl,?_⟩
          simp -implicitDefEqProofs []
          exact⟨Fr.refl _ _,ha⟩
         ·rintro k T H' ⟨j,hj,rfl,t0,t88,t89,t90,fH,hr⟩
          by_cases hjl:j<x.ai.length
          ·have eD:(j:Int)<(x.ai.length:Int):=by omega
           have wj:IntKind.i64.wrap ((j:Int)+1)=(j:Int)+1:=wrap64 (by omega) (by omega)
           have hx0:x.ai[j]? =some x.ai[j]:=List.getElem?_eq_getElem hjl
           obtain⟨v,hv⟩: ∃v,v=x.ai[j]:=⟨_,rfl⟩
           rw[←hv]at hx0
           obtain⟨b5,o5,cp5,cs5,ro5,WK,hb5,Np,qca,QL,qaE⟩:=(hu2.fr fH hD).1.sl.at (i:=j) (r:=aG v) (by simp[hx0])
           rw[List.length_map]at WK
           simp only[Value.slice.injEq]at WK
           obtain⟨rfl,-,rfl⟩:=WK
           simp only[aG]at QL
           obtain⟨H3,hH3⟩: ∃X:aa,X=(H'.alloc (.cells [.int .i64 0,.int .i64 0,.int .i64 0,.string ⟨#[]⟩] false)).set H'.next (.cells [.int .i64 v.slot,.int .i64 v.a,.int .i64 v.n,.string v.val] false):=⟨_,rfl⟩
           have k3:H'.le H3:=by rw[hH3];exact(H'.aj _).set (Nat.le_refl _) _
           have b3:H3.get H'.next=some (.cells [.int .i64 v.slot,.int .i64 v.a,.int .i64 v.n,.string v.val] false):=by rw[hH3,YW,if_pos rfl]
           have hr3:=hr.le k3
           have g3:=hr3.get
           simp only at g3
           simp -implicitDefEqProofs [t0,t88,t89,t90,hjl,eD,Np,QL,qaE,←hH3,b3,g3]
           refine aI c.mono (WG c hc.Vl hc.lT (s:=v.slot) (v:=v.val) hr3.l fun H4 f4 l4=> ?_)
           obtain⟨h4,Z7⟩:=hr3.lea f4 l4
           simp -implicitDefEqProofs [t0,t88,t89,t90,wj]
           refine⟨x.ai.length-(j+1),by omega,j+1,by omega,rfl,rfl,fH.trans (k3.lq (Z7.iff hB)) (fun b hb=>.inl hb),?_⟩
           rw[List.take_add_one,hx0,show tells R.L (x.ai.take j++(some v).toList)=if mQ (tells R.L (x.ai.take j)) v.slot v.val=true then (tells R.L (x.ai.take j)).tell v.slot v.val else tells R.L (x.ai.take j)by unfold tells;rw[List.foldl_append];rfl]
           exact h4
          ·have eD: ¬ (j:Int)<(x.ai.length:Int):=by omega
           have uA:j=x.ai.length:=by omega
           rw[uA,List.take_length]at hr
           simp -implicitDefEqProofs [t0,t88,t89,t90,hjl,eD]
           exact hK _ H' ⟨B,(nI.trans k2).lq fH,fun b hb=>.inl hb,⟨pa,pp,pl,ig,jc,gL,hr,hB⟩,gB.nil _ _⟩
        ·have e:eZ c x u = .nilIface:=by unfold eZ;rw[if_neg q1,if_neg q2,if_neg q3,if_neg q4,if_neg q5,if_neg q6]
         have et:R.take x=(R,[]):=by unfold Rp.take;rw[if_neg hgo,if_neg q1,if_neg q2,if_neg q3,if_neg q4,if_neg q5,if_neg q6]
         rw[e]
         simp -implicitDefEqProofs []
         exact stay H1 nI et
  ·simp -implicitDefEqProofs [b0,g0,hme]
   exact stay H0 k0 (by unfold Rp.take;rw[if_pos (.inr hme)])
end
end
section
def zP (L:Lr):Nat→Lr
 |0=>L
 |k+1=>if mQ (zP L k) k Pz=true then (zP L k).tell k Pz else zP L k
def Rp.gM (R:Rp):Rp:=
 {R with P:=bC.new R.n R.me,L:=(zP ⟨R.n,0,fun _=>none,fun _=>none⟩ R.A.base.toNat).trim (DI (zP ⟨R.n,0,fun _=>none,fun _=>none⟩ R.A.base.toNat) R.A.base)}
section
variable (c:Ctx) (hc:qV c) {H:aa} {K:Value→aa→Prop} {B:Nat→Prop} {p:Nat} {R:Rp}
include hc in
theorem UI (h:wO B H p R)(ho:R.ok)(hK: ∀H' B',Fr B H H'→(∀b,B' b→B b∨H.next≤b)→wO B' H' p R.gM→K (.tuple #[]) H'):
 c.C (c.F vP) [.pointer (some ⟨p,0,none⟩)] H K:=by
 refine c.enter hc.rep.yA rfl ?_
 obtain⟨pa,pp,pl,ig,jc,gL,h,hB⟩:=h
 have g:=h.get
 have hlt:=h.lt
 have hq:=eB ho.1.1
 rw[ho.2.1]at hq
 have hq0:aO R.n≠0:=by rw[←ho.2.1];exact ho.1.1
 simp -implicitDefEqProofs [jk,aT,g]
 refine aI c.mono (TA c hc.bb hc.RB (fun hbad=> ?_) fun _ _ _ pp1 Bp1 H1 k1 bp1 i1=> ?_)
 ·have:=ho.1.2.1;have:=ho.1.2.2.1;have:=ho.2.1;have:=ho.2.2.1
  exfalso
  rcases hbad with hb|hb|hb
  ·exact hq0 hb
  ·omega
  ·omega
 ·have g1:=(k1.get p hlt).trans g
  simp -implicitDefEqProofs [g1]
  refine aI c.mono (WC c hc.Vl hc.bb (fun hz=>absurd hz hq0) fun _ pl2 Bl2 H2 k2 bl2 l2=> ?_)
  have n1:=k1.next
  have n2:=k2.next
  have UH:=k1.trans k2
  have g2:=(UH.get p hlt).trans g
  obtain⟨L0,hL0⟩: ∃L0:Lr,L0=⟨R.n,0,fun _=>none,fun _=>none⟩:=⟨_,rfl⟩
  rw[←hL0]at l2
  obtain⟨H3,hH3⟩: ∃X:aa,X=(H2.set p (.cells [.int .i64 R.n,.int .i64 R.me,.pointer (some ⟨pa,0,none⟩),.pointer (some ⟨pp1,0,none⟩),.pointer (some ⟨pl,0,none⟩)] false)).set p (.cells [.int .i64 R.n,.int .i64 R.me,.pointer (some ⟨pa,0,none⟩),.pointer (some ⟨pp1,0,none⟩),.pointer (some ⟨pl2,0,none⟩)] false):=⟨_,rfl⟩
  have f3:Fr (fun b=>b=p) H2 H3:=by rw[hH3];exact(Fr.one H2 p _).set (.inl rfl) _
  have n3:=f3.next
  have nH3:H3.next=H2.next:=by rw[hH3];rfl
  have h3:uM H3 p pa pp1 pl2 ig Bp1 Bl2 {R with P:=bC.new R.n R.me,L:=L0}:=by
   refine⟨by omega,by rw[hH3,YW,if_pos rfl],(h.a.le UH).fr f3 fun b hb e=>h.na (e▸hb),(i1.le k2).fr f3 fun b hb e=> ?_,l2.fr f3 fun b hb e=> ?_,h.na,fun hh=> ?_,fun hh=> ?_,fun b x y=> ?_,fun b x y=> ?_,fun b x y=> ?_⟩
   ·have:=bp1 b hb;omega
   ·have:=bl2 b hb;omega
   ·have:=bp1 p hh;omega
   ·have:=bl2 p hh;omega
   ·have:=h.a.lt b x;have:=bp1 b y;omega
   ·have:=h.a.lt b x;have:=bl2 b y;omega
   ·have:=i1.lt b x;have:=bl2 b y;omega
  have F3:Fr B H H3:=UH.lq (f3.weak fun b hb=>(hB b).2 (.inl hb))
  have S3: ∀b,xO p ig Bp1 Bl2 b→B b∨H.next≤b:=by
   intro b hb
   rcases hb with hb|hb|hb|hb
   ·exact .inl ((hB b).2 (.inl hb))
   ·exact .inl ((hB b).2 (.inr (.inl hb)))
   ·exact .inr (bp1 b hb)
   ·exact .inr (by have:=bl2 b hb;omega)
  have g3:=h3.get
  simp only at g3
  simp -implicitDefEqProofs [g2,←hH3,g3]
  refine av (WA c hc.acc h3.a ?_)
  have hb0:=ho.2.2.2.2.1
  have hb1:=ho.2.2.2.2.2.1
  obtain⟨N,hN⟩: ∃N:Nat,R.A.base=N:=⟨R.A.base.toNat,by omega⟩
  simp -implicitDefEqProofs [hN]
  refine aS c.mono (fun k T H'=> ∃j:Nat,j≤N∧k=N-j∧T 0 = .pointer (some ⟨p,0,none⟩)∧T 29 = .int .i64 N∧T 30 = .int .i64 j∧Fr (xO p ig Bp1 Bl2) H3 H'∧uM H' p pa pp1 pl2 ig Bp1 Bl2 {R with P:=bC.new R.n R.me,L:=zP L0 j}) N ?_ ?_
  ·refine⟨0,by omega,rfl,?_⟩
   simp -implicitDefEqProofs []
   exact⟨Fr.refl _ _,h3⟩
  ·rintro k T H' ⟨j,hj,rfl,t0,t29,t30,fH,hr⟩
   have gH:=hr.get
   simp only at gH
   by_cases hjl:j<N
   ·have eD:(j:Int)<(N:Int):=by omega
    have wj:IntKind.i64.wrap ((j:Int)+1)=(j:Int)+1:=wrap64 (by omega) (by omega)
    simp -implicitDefEqProofs [t0,t29,t30,hjl,eD,gH]
    refine av (WG c hc.Vl hc.lT (s:=j) (v:=Pz) hr.l fun H4 f4 l4=> ?_)
    obtain⟨h4,Z7⟩:=hr.lea f4 l4
    simp -implicitDefEqProofs [t0,t29,t30,wj]
    exact⟨N-(j+1),by omega,j+1,by omega,rfl,rfl,fH.trans Z7 (fun b hb=>.inl hb),h4⟩
   ·have eD: ¬ (j:Int)<(N:Int):=by omega
    have uA:j=N:=by omega
    subst uA
    simp -implicitDefEqProofs [t0,t29,t30,hjl,eD,gH]
    refine aI c.mono (WA c hc.acc hr.a ?_)
    simp -implicitDefEqProofs [gH]
    refine aI c.mono (qaz c hc.Vl hc.lT (s:=R.A.base) hr.l fun H4 f4 l4=> ?_)
    obtain⟨h4,Z7⟩:=hr.lea f4 l4
    simp -implicitDefEqProofs []
    refine hK H4 (xO p ig Bp1 Bl2) (F3.trans (fH.trans Z7 (fun b hb=>.inl hb)) S3) S3 ⟨pa,pp1,pl2,ig,Bp1,Bl2,?_,fun b=>Iff.rfl⟩
    have e:R.gM={R with P:=bC.new R.n R.me,L:=(zP L0 j).trim (DI (zP L0 j) R.A.base)}:=by
     unfold Rp.gM
     rw[hN,hL0]
     rfl
    rw[e]
    exact h4
variable (R)
include hc
end
end
end
def isStr:Value→Bool
 | .string _=>true
 |_=>false
theorem UJ {D:Nat→Prop}{H:aa}{w:Value}{l:List ay}{b:Nat}{cs:List Value}{ro:Bool}(h:eP D H 4 w (l.map aG))(hg:H.get b=some (.cells cs ro))(hs:cs.all (fun x=> !isStr x)=true):eP (fun x=>D x∧x≠b) H 4 w (l.map aG):=by
 refine⟨⟨h.1.1,fun b' o n c e hr=>⟨h.1.2 b' o n c e hr,?_⟩⟩,h.2⟩
 rintro rfl
 obtain⟨a,cap,e2,h2⟩:=h.1.1
 obtain⟨b2,o2,cs2,ro2,rfl,hb2,hg2,hrow⟩:=h2 hr
 rw[e]at e2
 simp only[Value.slice.injEq,Option.some.injEq,Addr.mk.injEq]at e2
 obtain⟨⟨rfl,-⟩,-⟩:=e2
 rw[hg]at hg2
 simp only[Option.some.injEq,fK.cells.injEq]at hg2
 obtain⟨rfl,rfl⟩:=hg2
 cases l with
 |nil=>exact hr rfl
 |cons v l=>
  have:=(hrow 0 (aG v) (by simp)).2.1
  have h3:=Dy this 3 (by omega)
  simp only[aG,List.getElem?_cons_succ,List.getElem?_cons_zero]at h3
  have hm:=List.mem_of_getElem? h3
  have:=List.all_eq_true.1 hs _ hm
  simp[isStr]at this
theorem UK {D:Nat→Prop}{H:aa}{l:List az}{us:List Value}(h1:us.length=l.length)(h: ∀(i:Nat) (x:az) (u:Value),l[i]? =some x→us[i]? =some u→eP D H 4 u (x.ai.map aG)):(List.zipWith aC l us).flatten.all (fun x=> !isStr x)=true:=by
 rw[List.all_eq_true]
 intro y hy
 obtain⟨r,hr,hy⟩:=List.mem_flatten.1 hy
 obtain⟨j,hj⟩:=List.getElem?_of_mem hr
 rw[List.getElem?_zipWith]at hj
 split at hj
 ·rename_i a b ha hb
  injection hj with hj;subst hj
  obtain⟨ua,uc,hu⟩:=(h j a b ha hb).2.len
  simp only[aC,List.mem_cons,List.not_mem_nil,or_false]at hy
  rcases hy with rfl|rfl|rfl|rfl|rfl|rfl|rfl <;> first|rfl|(rw[hu];rfl)
 ·cases hj
theorem gB.append {D D2:Nat→Prop}{H:aa}{v u:Value}{l m:List az}(h:gB D H v l)(k:gB D2 H u m)(hl:(l.length+m.length)*72≤140737488355328):
 ∃v' H' news,aZ H 7 m.length u=some news∧aY H 7 72 v m.length news=some (v',H')∧gB (fun b=>D b∨D2 b∨(H.next≤b∧b<H'.next)) H' v' (l++m)∧Fr D H H':=by
 obtain⟨us,h1,h2,h3,h4⟩:=h
 obtain⟨ws,k1,k2,k3,_⟩:=k
 have hzl:=eX h1
 have RD:=eX k1
 have hone: ∀w ∈ ws,cO w=true:=by
  intro w hw
  obtain⟨j,hj⟩:=List.getElem?_of_mem hw
  have hjl:=(List.getElem?_eq_some_iff.1 hj).1
  exact(k3 j m[j] w (List.getElem?_eq_getElem (by omega)) hj).2.one
 have hf:=k2.2.first (by omega)
 rw[RD]at hf
 have fin: ∀(v':Value) (H':aa) (S:Nat→Prop),aY H 7 72 v m.length (List.zipWith aC m ws).flatten=some (v',H')→Fr S H H'→(∀b,S b→D b)→eP (fun b=>D b∨D2 b∨(H.next≤b∧b<H'.next)) H' 7 v' (List.zipWith aC l us++List.zipWith aC m ws) →
  QE H' 7 v' (List.zipWith aC l us++List.zipWith aC m ws)→(∀(x:az) (w:Value) (E:Nat→Prop),eP E H 4 w (x.ai.map aG)→eP (fun b=>E b∧¬ S b) H 4 w (x.ai.map aG)) →
  ∃v' H' news,aZ H 7 m.length u=some news∧aY H 7 72 v m.length news=some (v',H')∧gB (fun b=>D b∨D2 b∨(H.next≤b∧b<H'.next)) H' v' (l++m)∧Fr D H H':=by
  intro v' H' S e1 e2 e3 e4 e5 e6
  refine⟨v',H',_,hf,e1,⟨us++ws,by simp[h1,k1],?_,?_,?_⟩,e2.weak e3⟩
  ·rw[List.zipWith_append h1.symm];exact e4
  ·intro i x w a b
   by_cases hi:i<l.length
   ·rw[List.getElem?_append_left hi]at a
    rw[List.getElem?_append_left (by omega)]at b
    exact((e6 x w D (h3 i x w a b)).fr e2 fun b hb=>hb.2).weak fun b hb=>.inl hb.1
   ·rw[List.getElem?_append_right (by omega)]at a
    rw[List.getElem?_append_right (by omega),h1]at b
    exact((e6 x w D2 (k3 _ x w a b)).fr e2 fun b hb=>hb.2).weak fun b hb=>.inr (.inl hb.1)
  ·rw[List.zipWith_append h1.symm];exact e5
 by_cases hmz:m=[]
 ·subst hmz
  have hwz:ws=[]:=List.length_eq_zero_iff.1 k1
  subst hwz
  refine fin v H (fun _=>False) ?_ (Fr.refl _ _) (fun _ h=>h.elim) ?_ (by simpa using h4) (fun x w E hw=>hw.weak fun b hb=>⟨hb,fun h=>h⟩)
  ·obtain⟨a,cap,e,e2,e3⟩:=h2.2.2
   subst e
   rw[hzl]at e3 ⊢
   have hc:l.length≤cap:=by rcases e3 with⟨_,e3⟩|⟨e3,_⟩;exact e3;rw[e3];unfold dY;omega
   have hl1:l.length*72≤140737488355328:=by simpa using hl
   have hl2:l.length≤140737488355328:=by omega
   show aY H 7 72 (.slice a l.length cap) 0 []=_
   simp[aY,hl1,hl2,hc]
  ·simp only[List.zipWith_nil_left,List.append_nil]
   exact h2.weak fun b hb=>.inl hb
 ·have hmr:List.zipWith aC m ws≠[]:=fun hz=>hmz (List.length_eq_zero_iff.1 (by rw[←RD,hz];rfl))
  rcases h4 with⟨e1,rfl⟩|⟨hne,ht|⟨b,hg⟩⟩
  ·have hlz:l=[]:=List.length_eq_zero_iff.1 (by rw[←hzl,e1];rfl)
   subst hlz
   obtain⟨v',H',o',q1,q2,q3,q4⟩:=GrowAt.append (o:=none) (bytes:=72) (new:=List.zipWith aC m ws) (show GrowAt none H 7 (.slice none 0 0) []from⟨rfl,rfl⟩) (by omega) (by omega) (by rw[RD];simpa using hl) (by rw[RD];simp at hl ⊢;omega) (gI m ws) (um hone)
   rw[RD]at q1
   rcases q4 with⟨_,q4⟩|⟨z,q4,q5,_⟩
   ·exact absurd q4 hmr
   ·subst q4
    have hgw:=(q2.grow (N:=H.next) (fun b hb=>by injection hb with hb;omega)).QD
    refine fin v' H' (fun _=>False) q1 (q3.weak fun b hb=>by cases hb) (fun _ h=>h.elim) (hgw.weak fun b hb=>.inr (.inr hb)) (.inr ⟨by simpa using hmr,.inr ⟨z,q2⟩⟩) (fun x w E hw=>hw.weak fun b hb=>⟨hb,fun h=>h⟩)
  ·have hps:0<(List.zipWith aC m ws).length:=List.length_pos_iff.2 hmr
   obtain⟨r7,blk,o,cs,ro,t1,t2,rfl,t4,t5,t6⟩:=ht
   have hall: ∀r ∈ List.zipWith aC l us++List.zipWith aC m ws,r.length=7:=fun r hr=>by rcases List.mem_append.1 hr with h|h;exact r7 r h;exact gI m ws r h
   have hH':GrowAt (some H.next) (H.alloc (.cells ((List.zipWith aC l us).flatten++(List.zipWith aC m ws).flatten) false)) 7 (.slice (some ⟨H.next,0,none⟩) (l.length+m.length) (dY+7)) (List.zipWith aC l us++List.zipWith aC m ws):=
    ⟨by rw[YX];omega,hall,by rw[List.length_append,hzl,RD],by rw[YV,if_pos rfl];simp⟩
   refine fin (.slice (some ⟨H.next,0,none⟩) (l.length+m.length) (dY+7)) (H.alloc (.cells ((List.zipWith aC l us).flatten++(List.zipWith aC m ws).flatten) false)) (fun _=>False) ?_ ((H.aj _).fr _) (fun _ h=>h.elim)
    ((hH'.grow (N:=H.next) (fun b hb=>by injection hb with hb;omega)).QD.weak fun b hb=>.inr (.inr hb)) (.inr ⟨by simp[hne],.inr ⟨_,hH'⟩⟩) (fun x w E hw=>hw.weak fun b hb=>⟨hb,fun h=>h⟩)
   have hf2:aZ H 7 (List.zipWith aC l us).length (.slice (some ⟨blk,o,none⟩) (List.zipWith aC l us).length (List.zipWith aC l us).length)=some (List.zipWith aC l us).flatten:=by
    simp only[aZ,aa.aP,t4]
    by_cases hz:(List.zipWith aC l us).length*7=0
    ·rw[if_pos hz]
     have:(List.zipWith aC l us).length=0:=by omega
     simp[List.length_eq_zero_iff.1 this]
    ·rw[if_neg hz,if_pos t6,t5]
   have hfl:=dR _ 7 (gI m ws)
   rw[hzl]at hf2 ⊢
   rw[RD]at hps hfl
   simp only[aY]
   rw[if_pos ⟨hl,by omega,by omega,by omega,hfl⟩,if_neg (by omega),if_neg (fun h=>by have:=h.2;omega)]
   rw[hzl]at t2
   simp only[hf2,t2,if_true]
  ·obtain⟨v',H',o',q1,q2,q3,q4⟩:=hg.append (bytes:=72) (new:=List.zipWith aC m ws) (by omega) (by omega) (by rw[hzl,RD];exact hl) (by rw[hzl,RD];omega) (gI m ws) (um hone)
   rw[RD]at q1
   rcases q4 with⟨_,q4⟩|⟨z,q4,q5,_⟩
   ·exact absurd q4 hmr
   ·subst q4
    have hDb:D b:=h2.1.2 b 0 _ _ hg.2.2.1 hne
    refine fin v' H' (fun x=>x=b) q1 (q3.weak fun x hx=>by injection hx with hx;exact hx.symm) (fun x hx=>hx▸hDb) (((q2.grow (N:=H.next) (fun b hb=>by injection hb with hb;omega)).QD).weak fun b hb=>.inr (.inr hb)) (.inr ⟨by simp[hne],.inr ⟨z,q2⟩⟩) (fun x w E hw=>UJ hw hg.2.2.2 (UK h1 h3))
theorem wO.sorted {B:Nat→Prop}{H:aa}{p:Nat}{R:Rp}(h:wO B H p R):Sorted R.A.L:=by obtain⟨_,_,_,_,_,_,h,_⟩:=h;exact h.a.sorted
theorem wO.lok {B:Nat→Prop}{H:aa}{p:Nat}{R:Rp}(h:wO B H p R):R.L.ok:=by obtain⟨_,_,_,_,_,_,h,_⟩:=h;exact h.l.ok
theorem qaG (L:Lr)(fr:Int)(v:ay):(L.hear fr v).1.n=L.n:=by
 unfold Lr.hear
 split
 ·split <;> rfl
 ·rfl
theorem TL: ∀(l:List ay) (L:Lr),(tells L l).n=L.n
 |[],_=>rfl
 |v::l,L=>by
  have:=TL l (if mQ L v.slot v.val=true then L.tell v.slot v.val else L)
  unfold tells at this ⊢
  rw[List.foldl_cons,this]
  split <;> rfl
theorem qaH (P:bC)(a n fr:Int):(P.lead a n fr).1.n=P.n∧(P.lead a n fr).1.me=P.me:=by
 unfold bC.lead
 split
 ·exact⟨rfl,rfl⟩
 ·split <;> exact⟨rfl,rfl⟩
theorem UL (P:bC)(s:ByteArray):(P.ax s).1.n=P.n∧(P.ax s).1.me=P.me:=by
 unfold bC.ax
 (repeat' split) <;> exact⟨rfl,rfl⟩
theorem Rp.ok.bQ {R:Rp}(h:R.ok)(x:az):(R.bQ x).1.ok∧(R.bQ x).1.n=R.n∧(R.bQ x).1.me=R.me:=by
 have hs:=SA R.P x.ba x.bn
 have h1:(R.P.step x.ba x.bn).1.ok:=h.1.step x.ba x.bn
 have h5:=zO h.2.2.2.2 x.ba x.bn x.slot
 unfold Rp.bQ
 split
 ·exact⟨⟨h1,hs.1.trans h.2.1,hs.2.trans h.2.2.1,h.2.2.2.1,h.2.2.2.2⟩,rfl,rfl⟩
 ·split <;> exact⟨⟨h1,hs.1.trans h.2.1,hs.2.trans h.2.2.1,h.2.2.2.1,h5⟩,rfl,rfl⟩
theorem Rp.ok.promise {R:Rp}(h:R.ok)(x:az):(R.promise x).1.ok∧(R.promise x).1.n=R.n∧(R.promise x).1.me=R.me:=by
 have hs:=Nn R.P x.fr x.ba x.bn x.ai
 have h1:=h.1.promise x.fr x.ba x.bn x.ai
 unfold Rp.promise
 split
 ·exact⟨⟨h1,hs.1.trans h.2.1,hs.2.trans h.2.2.1,h.2.2.2⟩,rfl,rfl⟩
 ·split <;> exact⟨⟨h1,hs.1.trans h.2.1,hs.2.trans h.2.2.1,h.2.2.2⟩,rfl,rfl⟩
theorem Rp.ok.accept {R:Rp}(h:R.ok)(v:ay):(R.accept v).1.ok∧(R.accept v).1.n=R.n∧(R.accept v).1.me=R.me:=by
 have hs:=SA R.P v.a v.n
 exact⟨⟨h.1.step v.a v.n,hs.1.trans h.2.1,hs.2.trans h.2.2.1,h.2.2.2.1,WM h.2.2.2.2 v⟩,rfl,rfl⟩
theorem Rp.ok.take {R:Rp}(h:R.ok)(x:az):(R.take x).1.ok∧(R.take x).1.n=R.n∧(R.take x).1.me=R.me:=by
 unfold Rp.take
 split
 ·exact⟨h,rfl,rfl⟩
 split
 ·exact h.bQ x
 split
 ·exact h.promise x
 split
 ·exact h.accept _
 split
 ·exact⟨⟨h.1,h.2.1,h.2.2.1,(qaG _ _ _).trans h.2.2.2.1,h.2.2.2.2⟩,rfl,rfl⟩
 split
 ·exact⟨h,rfl,rfl⟩
 split
 ·exact⟨⟨h.1,h.2.1,h.2.2.1,(TL _ _).trans h.2.2.2.1,h.2.2.2.2⟩,rfl,rfl⟩
 ·exact⟨h,rfl,rfl⟩
theorem Rp.ok.lead {R:Rp}(h:R.ok):R.lead.1.ok∧R.lead.1.n=R.n∧R.lead.1.me=R.me:=by
 have hs:=qaH R.P R.A.pa R.A.pn (gD R.L)
 have h1:=h.1.lead R.A.pa R.A.pn (gD R.L)
 unfold Rp.lead
 split
 ·exact⟨h,rfl,rfl⟩
 ·exact⟨⟨h1,hs.1.trans h.2.1,hs.2.trans h.2.2.1,h.2.2.2.1,zO h.2.2.2.2 _ _ _⟩,rfl,rfl⟩
theorem Rp.ok.ax {R:Rp}(h:R.ok)(s:ByteArray):(R.ax s).1.ok∧(R.ax s).1.n=R.n∧(R.ax s).1.me=R.me:=by
 have hs:=UL R.P s
 have h1:=h.1.ax s
 unfold Rp.ax
 split
 ·exact⟨h,rfl,rfl⟩
 ·exact⟨⟨h1,hs.1.trans h.2.1,hs.2.trans h.2.2.1,h.2.2.2⟩,rfl,rfl⟩
theorem OH: ∀(k:Nat) (L:Lr),(zP L k).n=L.n
 |0,_=>rfl
 |k+1,L=>by
  simp only[zP]
  split
  ·exact OH k L
  ·exact OH k L
theorem Rp.ok.gM {R:Rp}(h:R.ok):R.gM.ok∧R.gM.n=R.n∧R.gM.me=R.me:=by
 have h1:=h.1
 refine⟨⟨Wp ?_ ?_ ?_,rfl,rfl,OH _ _,h.2.2.2.2⟩,rfl,rfl⟩
 ·rw[←h.2.1];exact h1.1
 ·rw[←h.2.2.1];exact h1.2.1
 ·rw[←h.2.2.1,←h.2.1];exact h1.2.2.1
theorem QM (R:Rp)(h:R.ok)(x:az):(lQ R x).length≤7:=by
 have h1:=eB h.1.1
 have h2:=h.2.1
 unfold lQ
 rw[List.length_map,List.length_range]
 omega
theorem QN {R:Rp}{x y:az}(h:y ∈ lQ R x): ∃i:Nat,(i:Int)<R.n∧y={x with fr:=R.me,to:=(i:Int)}:=by
 unfold lQ at h
 obtain⟨i,hi,rfl⟩:=List.mem_map.1 h
 have:=List.mem_range.1 hi
 exact⟨i,by omega,rfl⟩
theorem OI (R:Rp)(h:R.ok)(l:List ay)(k:Int):(l.flatMap fun v=>lQ R (cB k v)).length≤7*l.length:=by
 induction l with
 |nil=>exact Nat.le_refl _
 |cons v l ih=>rw[List.flatMap_cons,List.length_append,List.length_cons];have:=QM R h (cB k v);omega
theorem WO {P:bC}(h:P.ok):(P.fill (LF P)).length≤1024:=by
 unfold bC.fill
 rw[ug]
 have z:=TI h
 obtain⟨_,_,_,z4,z5,z6,_,_⟩:=h
 omega
def LK (l:List az):Prop:=l.length≤7168∧∀y ∈ l,y.ai.length≤1024
theorem gJ:LK []:=⟨by simp,by simp⟩
theorem AO {R:Rp}(h:R.ok){x:az}(hx:x.ai.length≤1024):LK (lQ R x):=by
 refine⟨by have:=QM R h x;omega,fun y hy=> ?_⟩
 obtain⟨i,_,rfl⟩:=QN hy
 exact hx
theorem DK {R:Rp}(h:R.ok)(hs:Sorted R.A.L)(x:az):LK (R.take x).2:=by
 unfold Rp.take
 split
 ·exact gJ
 split
 ·unfold Rp.bQ
  split
  ·exact gJ
  split
  ·exact gJ
  ·refine⟨by simp,fun y hy=> ?_⟩
   simp only[List.mem_singleton]at hy
   subst hy
   have h1:=Ko h.2.2.2.2 hs
   show(R.A.promise x.ba x.bn x.slot).2.1.length≤1024
   unfold Acc.promise
   split
   ·simp
   ·exact Nat.le_trans (List.length_filter_le _ _) h1
 split
 ·unfold Rp.promise
  split
  ·exact gJ
  split
  ·exact gJ
  ·have hp:=h.1.promise x.fr x.ba x.bn x.ai
   have h1:=WO hp
   have h2:=OI R h ((R.P.promise x.fr x.ba x.bn x.ai).1.fill (LF (R.P.promise x.fr x.ba x.bn x.ai).1)) 3
   refine⟨by show(List.flatMap _ _).length≤_;omega,fun y hy=> ?_⟩
   obtain⟨v,_,hy⟩:=List.mem_flatMap.1 hy
   exact(AO h (x:=cB 3 v) (by simp[cB])).2 y hy
 split
 ·unfold Rp.accept
  split
  ·exact AO h (by simp[cB])
  ·exact gJ
 split
 ·exact gJ
 split
 ·unfold Rp.tell
  split
  ·exact gJ
  split
  ·exact gJ
  ·refine⟨by simp,fun y hy=> ?_⟩
   simp only[List.mem_singleton]at hy
   subst hy
   show(yh R x).length≤1024
   unfold yh
   rw[uN,List.length_take]
   omega
 split <;> exact gJ
theorem LM {R:Rp}(h:R.ok):LK R.lead.2:=by
 unfold Rp.lead
 split
 ·exact gJ
 ·exact AO h (by simp[uk])
theorem Df {R:Rp}(h:R.ok)(s:ByteArray):LK (R.ax s).2.1:=by
 unfold Rp.ax
 split
 ·exact gJ
 ·exact AO h (by simp[cB])
theorem Nq (R:Rp)(i:Int):LK (R.ask i):=by
 unfold Rp.ask
 split
 ·exact⟨by simp,fun y hy=>by simp only[List.mem_singleton]at hy;subst hy;exact Nat.zero_le _⟩
 ·exact gJ
structure LP where
 kind:Int
 to:Int
 text:ByteArray
 note:az
def Rp.deed (R:Rp)(d:LP):Rp×List az:=
 if d.kind=0 then R.lead else if d.kind=1 then ((R.ax d.text).1,(R.ax d.text).2.1)else if d.kind=2 then R.take d.note else if d.kind=3 then (R,R.ask d.to)else (R,[])
theorem Rp.ok.deed {R:Rp}(h:R.ok)(d:LP):(R.deed d).1.ok∧(R.deed d).1.n=R.n∧(R.deed d).1.me=R.me:=by
 unfold Rp.deed
 split
 ·exact h.lead
 split
 ·exact h.ax d.text
 split
 ·exact h.take d.note
 split <;> exact⟨h,rfl,rfl⟩
def OkN (R:Rp)(y:az):Prop:=y.fr=R.me∧0≤y.to∧y.to<R.n∧1≤y.kind∧y.kind≤6∧(y.kind=3→y.ai.length=1)
theorem Kq {R:Rp}{x y:az}(h:y ∈ lQ R x)(h1:1≤x.kind∧x.kind≤6)(h2:x.kind=3→x.ai.length=1):OkN R y:=by
 obtain⟨i,hi,rfl⟩:=QN h
 exact⟨rfl,by show(0:Int)≤i;omega,hi,h1.1,h1.2,h2⟩
theorem LQ {R:Rp}{i:Int}(h: ¬ R.isNode i=false):0≤i∧i<R.n:=by
 unfold Rp.isNode at h
 simpa using h
theorem Fa {R:Rp}(d:LP){y:az}(hy:y ∈ (R.deed d).2):OkN R y:=by
 unfold Rp.deed at hy
 split at hy
 ·unfold Rp.lead at hy
  split at hy
  ·cases hy
  ·exact Kq hy ⟨by simp[uk],by simp[uk]⟩ (by simp[uk])
 split at hy
 ·unfold Rp.ax at hy
  split at hy
  ·cases hy
  ·exact Kq hy ⟨by simp[cB],by simp[cB]⟩ (by simp[cB])
 split at hy
 ·unfold Rp.take at hy
  split at hy
  ·cases hy
  rename_i hc
  simp only[not_or]at hc
  have hn:=LQ hc.1
  split at hy
  ·unfold Rp.bQ at hy
   split at hy
   ·cases hy
   split at hy
   ·cases hy
   ·simp only[List.mem_singleton]at hy
    subst hy
    exact⟨rfl,hn.1,hn.2,by simp,by simp,by simp⟩
  split at hy
  ·unfold Rp.promise at hy
   split at hy
   ·cases hy
   split at hy
   ·cases hy
   ·obtain⟨v,_,hy⟩:=List.mem_flatMap.1 hy
    exact Kq hy ⟨by simp[cB],by simp[cB]⟩ (by simp[cB])
  split at hy
  ·unfold Rp.accept at hy
   split at hy
   ·exact Kq hy ⟨by simp[cB],by simp[cB]⟩ (by simp[cB])
   ·cases hy
  split at hy
  ·cases hy
  split at hy
  ·unfold Rp.tell at hy
   split at hy
   ·cases hy
   split at hy
   ·cases hy
   ·simp only[List.mem_singleton]at hy
    subst hy
    exact⟨rfl,hn.1,hn.2,by simp,by simp,by simp⟩
  split at hy <;> cases hy
 split at hy
 ·unfold Rp.ask at hy
  split at hy
  ·rename_i hc
   simp only[List.mem_singleton]at hy
   subst hy
   have hn:=LQ (R:=R) (i:=d.to) (by simp[hc])
   exact⟨rfl,hn.1,hn.2,by simp[Sz],by simp[Sz],by simp[Sz]⟩
  ·cases hy
 ·cases hy
def qcc (y:az):Option ay:=if y.kind=3∧y.to=0 then some (gF y.ai)else none
def asks (l:List az):List ay:=l.filterMap qcc
def Zl (v:ay):Int×Int×Int:=(v.slot,v.a,v.n)
theorem TM {a n b m:Int}:lX a n b m<0↔(a<b∨(a=b∧n<m)):=by
 unfold lX Mx
 (repeat' split) <;> omega
theorem Zm {a n b m:Int}:0<lX a n b m↔(b<a∨(a=b∧m<n)):=by
 unfold lX Mx
 (repeat' split) <;> omega
def MG (P:bC)(l:List ay):Prop:=(P.does=1→P.filled=false)∧∀v ∈ l,lX v.a v.n P.ba P.bn<0∨(v.a=P.ba∧v.n=P.bn∧P.does≠1∧v.slot<P.next)
theorem MG.up {P P':bC}{l:List ay}(h:MG P l)(h1:P'.does=1→P'.filled=false)(hb:0<lX P'.ba P'.bn P.ba P.bn):MG P' l:=by
 refine⟨h1,fun v hv=>.inl ?_⟩
 rw[Zm]at hb
 rw[TM]
 rcases h.2 v hv with h2|⟨h2,h3,_⟩
 ·rw[TM]at h2
  omega
 ·omega
theorem MG.same {P P':bC}{l:List ay}(h:MG P l)(e1:P'.ba=P.ba)(e2:P'.bn=P.bn)(h1:P'.does=1→P'.filled=false)(h2:P.does≠1→P'.does≠1)(h3:P.next≤P'.next):MG P' l:=by
 refine⟨h1,fun v hv=> ?_⟩
 rw[e1,e2]
 rcases h.2 v hv with h4|⟨h4,h5,h6,h7⟩
 ·exact .inl h4
 ·exact .inr ⟨h4,h5,h2 h6,by omega⟩
def UM (P:bC)(l:List ay):Prop:=MG P l∧(l.map Zl).Nodup
theorem UM.add {P P':bC}{l m:List ay}(h:UM P l)(h1:MG P' l)(h2:MG P' m)(h3:(m.map Zl).Nodup)(h4: ∀v ∈ l,∀w ∈ m,Zl v≠Zl w):UM P' (l++m):=by
 refine⟨⟨h1.1,fun v hv=>(List.mem_append.1 hv).elim (h1.2 v) (h2.2 v)⟩,?_⟩
 rw[List.map_append,List.nodup_append]
 refine⟨h.2,h3,fun a ha b hb=> ?_⟩
 obtain⟨v,hv,rfl⟩:=List.mem_map.1 ha
 obtain⟨w,hw,rfl⟩:=List.mem_map.1 hb
 exact h4 v hv w hw
theorem UM.none {P P':bC}{l:List ay}{m:List az}(h:UM P l)(h1:MG P' l)(hm:asks m=[]):UM P' (l++asks m):=by
 rw[hm,List.append_nil]
 exact⟨h1,h.2⟩
end Go.Proofs.YtpbbjfighohokaaGreatI
