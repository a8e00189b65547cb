/- A node: how it stands; a note to all. / A node: what it begins itself. / A node: asking all; a new one. / A node: what a note is; promises. / A node: notes that are gathered. / A node: asked for a promise; promised to; asked for values. -/
import Derived.Test.YtpbbjfighohokaaGreatRpB
namespace Go.Proofs.YtpbbjfighohokaaGreatI
open Go
set_option linter.unusedSimpArgs false
set_option linter.unusedVariables false
section
attribute [local simp] J0 J1 J2 J3 J4 J5 J6 J7 J8 J9 Ja Jb Jc Jd Je Jf Jg Jh Ji Jj Jk Jl Jm Jn Jo Jp Jq Jr Js Jt Ju Jv Jw Jx Jy Jz JA JB JC JD JE JF JG JH JI JJ JK JL JM JN JO JP JQ JR JS aQ bZ.kind JT JU JV JW JX JY JZ Y0 Y1 Y2 Y3 Y4 Y5 Y6 Y7 Y8 Y9 Ya Yb Yc Yd Ye Yf Yg Yh Yi Yj Yk Yl Ym Yn Yo Yp Yq jq Yr Ys Yt Yu Yv Yw Yx Yy dZ bA bE Yz YA YB YC YD YE eO YF YG YH YI YJ YK YL YM YN YO YP YQ YR YS YT YU nP bK jR nG bu putAt aa.ah aa.aP aa.aK YV YW YX YY YZ B0 B1 B2 B3 B4 B5 B6 B7 B8 B9 Ba Bb Bc Bd Be Bf Bg Bh Bi Bj Bk Bl Bm Bn Bo Bp
section
structure Rp where
 n:Int
 me:Int
 A:Acc
 P:bC
 L:Lr
def Nl (A:Acc):Prop:=0≤A.base∧A.base≤1024∧bJ A.pa A.pn=true∧∀v ∈ A.L,A.base≤v.slot∧v.slot<1024∧bJ v.a v.n=true∧v.val.size≤4096
theorem DJ: ∀{L:List ay} {lo:Int},Sorted L→(∀v ∈ L,lo≤v.slot∧v.slot<1024)→lo≤1024→(L.length:Int)≤1024-lo
 |[],lo,_,_,h=>by simp;omega
 |v::L,lo,hs,hb,_=>by
  have hs':=List.pairwise_cons.1 hs
  have h1:=hb v (by simp)
  have:=DJ (lo:=v.slot+1) hs'.2 (fun w hw=>⟨by have:=hs'.1 w hw;omega,(hb w (by simp[hw])).2⟩) (by omega)
  simp only[List.length_cons]
  omega
theorem Ko {A:Acc}(h:Nl A)(hs:Sorted A.L):A.L.length≤1024:=by
 have:=DJ (lo:=0) hs (fun v hv=>⟨by have:=(h.2.2.2 v hv).1;have:=h.1;omega,(h.2.2.2 v hv).2.1⟩) (by omega)
 omega
structure uM (H:aa)(p pa pp pl:Nat)(ig jc gL:Nat→Prop)(R:Rp):Prop where
 lt:p<H.next
 get:H.get p=some (.cells [.int .i64 R.n,.int .i64 R.me,.pointer (some ⟨pa,0,none⟩),.pointer (some ⟨pp,0,none⟩),.pointer (some ⟨pl,0,none⟩)] false)
 a:Ni ig H pa R.A
 q:yV jc H pp R.P
 l:Nj gL H pl R.L
 na: ¬ ig p
 np: ¬ jc p
 nl: ¬ gL p
 ap: ∀b,ig b→¬ jc b
 al: ∀b,ig b→¬ gL b
 pl: ∀b,jc b→¬ gL b
def xO (p:Nat)(ig jc gL:Nat→Prop):Nat→Prop:=fun b=>b=p∨ig b∨jc b∨gL b
theorem uM.zN {H:aa}{p pa pp pl:Nat}{ig jc gL:Nat→Prop}{R:Rp}(h:uM H p pa pp pl ig jc gL R): ∀b,xO p ig jc gL b→b<H.next:=by
 intro b hb
 rcases hb with rfl|hb|hb|hb
 ·exact h.lt
 ·exact h.a.lt b hb
 ·exact h.q.lt b hb
 ·exact h.l.lt b hb
theorem uM.fr {H H':aa}{p pa pp pl:Nat}{ig jc gL C:Nat→Prop}{R:Rp}(h:uM H p pa pp pl ig jc gL R)(k:Fr C H H')(hd: ∀b,xO p ig jc gL b→¬ C b):uM H' p pa pp pl ig jc gL R:=
 ⟨Nat.lt_of_lt_of_le h.lt k.next,(k.get p h.lt (hd p (.inl rfl))).trans h.get,h.a.fr k fun b hb=>hd b (.inr (.inl hb)),h.q.fr k fun b hb=>hd b (.inr (.inr (.inl hb))),h.l.fr k fun b hb=>hd b (.inr (.inr (.inr hb))),h.na,h.np,h.nl,h.ap,h.al,h.pl⟩
theorem uM.le {H H':aa}{p pa pp pl:Nat}{ig jc gL:Nat→Prop}{R:Rp}(h:uM H p pa pp pl ig jc gL R)(k:H.le H'):uM H' p pa pp pl ig jc gL R:=h.fr (k.fr fun _=>False) fun _ _ h=>h
theorem uM.acc {H H':aa}{p pa pp pl:Nat}{ig jc gL B':Nat→Prop}{R:Rp}{A:Acc}(h:uM H p pa pp pl ig jc gL R)(k:Fr ig H H')(hb: ∀b,B' b→ig b∨H.next≤b)(a:Ni B' H' pa A):
 uM H' p pa pp pl B' jc gL {R with A:=A}∧Fr (xO p ig jc gL) H H'∧∀b,xO p B' jc gL b→xO p ig jc gL b∨H.next≤b:=by
 refine⟨⟨Nat.lt_of_lt_of_le h.lt k.next,(k.get p h.lt h.na).trans h.get,a,h.q.fr k fun b x y=>h.ap b y x,h.l.fr k fun b x y=>h.al b y x,fun x=> ?_,h.np,h.nl,fun b x y=> ?_,fun b x y=> ?_,h.pl⟩,k.weak fun b x=>.inr (.inl x),fun b x=> ?_⟩
 ·rcases hb p x with x|x
  ·exact h.na x
  ·have:=h.lt;omega
 ·rcases hb b x with x|x
  ·exact h.ap b x y
  ·have:=h.q.lt b y;omega
 ·rcases hb b x with x|x
  ·exact h.al b x y
  ·have:=h.l.lt b y;omega
 ·rcases x with x|x|x|x
  ·exact .inl (.inl x)
  ·exact(hb b x).imp (fun x=>.inr (.inl x)) id
  ·exact .inl (.inr (.inr (.inl x)))
  ·exact .inl (.inr (.inr (.inr x)))
theorem uM.RB {H H':aa}{p pa pp pl:Nat}{ig jc gL B':Nat→Prop}{R:Rp}{P:bC}(h:uM H p pa pp pl ig jc gL R)(k:Fr jc H H')(hb: ∀b,B' b→jc b∨H.next≤b)(a:yV B' H' pp P):
 uM H' p pa pp pl ig B' gL {R with P:=P}∧Fr (xO p ig jc gL) H H'∧∀b,xO p ig B' gL b→xO p ig jc gL b∨H.next≤b:=by
 refine⟨⟨Nat.lt_of_lt_of_le h.lt k.next,(k.get p h.lt h.np).trans h.get,h.a.fr k fun b x y=>h.ap b x y,a,h.l.fr k fun b x y=>h.pl b y x,h.na,fun x=> ?_,h.nl,fun b x y=> ?_,h.al,fun b x y=> ?_⟩,k.weak fun b x=>.inr (.inr (.inl x)),fun b x=> ?_⟩
 ·rcases hb p x with x|x
  ·exact h.np x
  ·have:=h.lt;omega
 ·rcases hb b y with y|y
  ·exact h.ap b x y
  ·have:=h.a.lt b x;omega
 ·rcases hb b x with x|x
  ·exact h.pl b x y
  ·have:=h.l.lt b y;omega
 ·rcases x with x|x|x|x
  ·exact .inl (.inl x)
  ·exact .inl (.inr (.inl x))
  ·exact(hb b x).imp (fun x=>.inr (.inr (.inl x))) id
  ·exact .inl (.inr (.inr (.inr x)))
theorem uM.lea {H H':aa}{p pa pp pl:Nat}{ig jc gL:Nat→Prop}{R:Rp}{L:Lr}(h:uM H p pa pp pl ig jc gL R)(k:Fr gL H H')(a:Nj gL H' pl L):
 uM H' p pa pp pl ig jc gL {R with L:=L}∧Fr (xO p ig jc gL) H H':=
 ⟨⟨Nat.lt_of_lt_of_le h.lt k.next,(k.get p h.lt h.nl).trans h.get,h.a.fr k fun b x y=>h.al b x y,h.q.fr k fun b x y=>h.pl b x y,a,h.na,h.np,h.nl,h.ap,h.al,h.pl⟩,k.weak fun b x=>.inr (.inr (.inr x))⟩
def wO (B:Nat→Prop)(H:aa)(p:Nat)(R:Rp):Prop:=∃pa pp pl ig jc gL,uM H p pa pp pl ig jc gL R∧∀b,B b↔xO p ig jc gL b
theorem wO.lt {B:Nat→Prop}{H:aa}{p:Nat}{R:Rp}(h:wO B H p R): ∀b,B b→b<H.next:=by
 obtain⟨_,_,_,_,_,_,h1,h2⟩:=h
 exact fun b hb=>h1.zN b ((h2 b).1 hb)
theorem wO.fr {B C:Nat→Prop}{H H':aa}{p:Nat}{R:Rp}(h:wO B H p R)(k:Fr C H H')(hd: ∀b,B b→¬ C b):wO B H' p R:=by
 obtain⟨pa,pp,pl,ig,jc,gL,h1,h2⟩:=h
 exact⟨pa,pp,pl,ig,jc,gL,h1.fr k (fun b hb=>hd b ((h2 b).2 hb)),h2⟩
theorem wO.le {B:Nat→Prop}{H H':aa}{p:Nat}{R:Rp}(h:wO B H p R)(k:H.le H'):wO B H' p R:=h.fr (k.fr fun _=>False) fun _ _ h=>h
theorem Fr.iff {B C:Nat→Prop}{H H':aa}(h:Fr B H H')(k: ∀b,C b↔B b):Fr C H H':=h.weak fun b hb=>(k b).2 hb
def Rp.ok (R:Rp):Prop:=R.P.ok∧R.P.n=R.n∧R.P.me=R.me∧R.L.n=R.n∧Nl R.A
def lQ (R:Rp)(x:az):List az:=(List.range R.n.toNat).map fun(i:Nat)=>{x with fr:=R.me,to:=(i:Int)}
def QF (cs:List Value)(N:Nat)(l:List az)(us:List Value):Prop:=cs.length=N*7∧us.length=l.length∧l.length≤N∧cs.take (l.length*7)=(List.zipWith aC l us).flatten
theorem qA (x:az)(u:Value):(aC x u).length=7:=rfl
theorem QF.put {cs cs':List Value}{N:Nat}{l:List az}{us:List Value}{x:az}{u:Value}(h:QF cs N l us)(hl:l.length<N)
 (hp:cs'=cs.take (l.length*7)++(aC x u++cs.drop (l.length*7+7))):QF cs' N (l++[x]) (us++[u]):=by
 obtain⟨h1,h2,h3,h4⟩:=h
 have ht:(cs.take (l.length*7)).length=l.length*7:=by rw[List.length_take,h1];omega
 refine⟨?_,by simp[h2],by simp;omega,?_⟩
 ·rw[hp,List.length_append,List.length_append,ht,qA,List.length_drop,h1];omega
 ·have e:cs'=(cs.take (l.length*7)++aC x u)++cs.drop (l.length*7+7):=by rw[hp,List.append_assoc]
  have hlen:(cs.take (l.length*7)++aC x u).length=(l++[x]).length*7:=by rw[List.length_append,ht,qA,List.length_append,List.length_singleton];omega
  rw[e,List.take_left' hlen,h4,List.zipWith_append h2.symm]
  simp
theorem LG {pre mid tail:List Value}{n k:Nat}(hn:pre.length=n)(hk:k<mid.length)(v:Value):
 (pre++(mid++tail)).take (n+k)++v::(pre++(mid++tail)).drop (n+k+1)=pre++(mid.set k v++tail):=by
 subst hn
 rw[List.take_append,List.take_of_length_le (by omega),Nat.add_sub_cancel_left,List.drop_append,List.drop_of_length_le (by omega),List.nil_append,show pre.length+k+1-pre.length=k+1 by omega,
  List.take_append,List.drop_append,show k-mid.length=0 by omega,show k+1-mid.length=0 by omega,List.take_zero,List.drop_zero,List.append_nil,List.append_assoc]
 congr 1
 rw[List.set_eq_take_append_cons_drop,if_pos hk]
 simp
section
variable (c:Ctx) (hr:OD c) {H:aa} {K:Value→aa→Prop} {B:Nat→Prop} {p:Nat} {R:Rp}
include hr in
theorem TJ {x:az}{u:Value}{D:Nat→Prop}(hp:p<H.next)(g: ∃y z w,H.get p=some (.cells [.int .i64 R.n,.int .i64 R.me,y,z,w] false))(h0:1≤R.n)(h7:R.n≤7)(hu:eP D H 4 u (x.ai.map aG))(hvl:x.ai.length≤1000000)
 (hK: ∀v H',H.le H'→gB (fun b=>H.next≤b∧b<H'.next) H' v (lQ R x)→K v H'):
 c.C (c.F yz) [.pointer (some ⟨p,0,none⟩),.agg (aC x u).toArray] H K:=by
 refine c.enter hr.A7 rfl ?_
 obtain⟨y,z,w,g⟩:=g
 obtain⟨N,hN⟩: ∃N:Nat,R.n=N:=⟨R.n.toNat,by omega⟩
 have e1: ¬ p=H.next:=by omega
 obtain⟨Z,hZ⟩: ∃Z:List Value,Z=(List.range (N*7)).map fun x=>[Value.int .i64 0,Value.int .i64 0,Value.int .i64 0,Value.int .i64 0,Value.int .i64 0,Value.int .i64 0,Value.slice none 0 0][x % 7]?.getD default:=⟨_,rfl⟩
 obtain⟨H1,hH1⟩: ∃X:aa,X=(H.alloc (.cells (aC x u) false)).alloc (.cells Z false):=⟨_,rfl⟩
 have c1:(N:Int)≤17592186044416:=by omega
 have c2:(N:Int)*72≤17592186044416:=by omega
 obtain⟨us0,qcJ,_⟩: ∃us:List Value,us=[]∧True:=⟨[],rfl,trivial⟩
 have n1:H1.next=H.next+2:=by rw[hH1];rfl
 have k1:H.le H1:=by rw[hH1];exact(H.aj _).alloc _
 have x1:H1.get H.next=some (.cells (aC x u) false):=by rw[hH1,YV,YX,if_neg (by omega),YV,if_pos rfl]
 have z1:H1.get (H.next+1)=some (.cells Z false):=by rw[hH1,YV,YX,if_pos rfl]
 have WH:(H.alloc (.cells [.int .i64 x.kind,.int .i64 x.fr,.int .i64 x.to,.int .i64 x.slot,.int .i64 x.ba,.int .i64 x.bn,u] false)).alloc (.cells ((List.range (N*7)).map fun x=>[Value.int .i64 0,Value.int .i64 0,Value.int .i64 0,Value.int .i64 0,Value.int .i64 0,Value.int .i64 0,Value.slice none 0 0][x % 7]?.getD default) false)=H1:=by rw[hH1,hZ];rfl
 obtain⟨ua,si,hue⟩:=hu.2.len
 rw[List.length_map]at hue
 have hzl:Z.length=N*7:=by rw[hZ];simp
 have XE: ∀i,i<N→(lQ R x)[i]? =some {x with fr:=R.me,to:=(i:Int)}:=by
  intro i hi
  unfold lQ
  rw[List.getElem?_map,List.getElem?_range (by rw[hN];simpa using hi)]
  rfl
 have hall:(lQ R x).length=N:=by unfold lQ;rw[List.length_map,List.length_range,hN];simp
 simp -implicitDefEqProofs [jZ,aC,g,hN,e1,c1,c2,WH]
 refine aS c.mono (fun k T H'=> ∃(i:Nat) (us:List Value) (cs:List Value),i≤N∧k=N-i∧T 0 = .pointer (some ⟨p,0,none⟩)∧T 3 = .pointer (some ⟨H.next,0,none⟩)∧T 5 = .slice (some ⟨H.next+1,0,none⟩) N N∧T 13 = .int .i64 N∧T 14 = .int .i64 i ∧
  H.le H'∧H.next+2≤H'.next∧H'.get H.next=some (.cells (aC x u) false)∧H'.get (H.next+1)=some (.cells cs false)∧QF cs N ((lQ R x).take i) us ∧
  ∀(j:Nat) (w:Value),us[j]? =some w→eP (fun b=>H.next+2≤b∧b<H'.next) H' 4 w (x.ai.map aG)) N ?_ ?_
 ·refine⟨0,[],Z,by omega,rfl,?_⟩
  simp -implicitDefEqProofs []
  exact⟨k1,by omega,x1,z1,hzl,rfl,by simp,by simp⟩
 ·rintro k T H' ⟨i,us,cs,hi,rfl,t0,t3,t5,t13,t14,kH,nH,xH,oH,lay,ZR⟩
  by_cases hiN:i<N
  ·have qaB:(i:Int)<(N:Int):=by omega
   have gH:=(kH.get p hp).trans g
   have hl1:=lay.1
   obtain⟨csA,hA⟩: ∃X,X=cs.take (i*7)++(aC x u++cs.drop (i*7+7)):=⟨_,rfl⟩
   have wi:IntKind.i64.wrap ((i:Int)+1)=(i:Int)+1:=wrap64 (by omega) (by omega)
   have b1:i*7+7≤cs.length:=by omega
   have ht:(cs.take (i*7)).length=i*7:=by rw[List.length_take];omega
   have lA:csA.length=cs.length:=by rw[hA,List.length_append,List.length_append,ht,qA,List.length_drop];omega
   obtain⟨csB,hBq⟩: ∃X,csA.take (i*7+1)++Value.int .i64 R.me::csA.drop (i*7+2)=X:=⟨_,rfl⟩
   have hBm:csB=cs.take (i*7)++((aC x u).set 1 (.int .i64 R.me)++cs.drop (i*7+7)):=by rw[←hBq,hA];exact LG ht (by rw[qA];omega) _
   have lB:csB.length=cs.length:=by rw[hBm,List.length_append,List.length_append,ht,List.length_set,qA,List.length_drop];omega
   obtain⟨Z6,hCq⟩: ∃X,csB.take (i*7+2)++Value.int .i64 (i:Int)::csB.drop (i*7+3)=X:=⟨_,rfl⟩
   have hCm:Z6=cs.take (i*7)++(((aC x u).set 1 (.int .i64 R.me)).set 2 (.int .i64 (i:Int))++cs.drop (i*7+7)):=by rw[←hCq,hBm];exact LG ht (by rw[List.length_set,qA];omega) _
   have lC:Z6.length=cs.length:=by rw[hCm,List.length_append,List.length_append,ht,List.length_set,List.length_set,qA,List.length_drop];omega
   subst hue
   obtain⟨HC,hHC⟩: ∃X:aa,((H'.set (H.next+1) (.cells csA false)).set (H.next+1) (.cells csB false)).set (H.next+1) (.cells Z6 false)=X:=⟨_,rfl⟩
   have nHC:HC.next=H'.next:=by rw[←hHC];rfl
   have kHC: ∀b,b≠H.next+1→HC.get b=H'.get b:=fun b hb=>by rw[←hHC,YW,if_neg hb,YW,if_neg hb,YW,if_neg hb]
   have oHC:HC.get (H.next+1)=some (.cells Z6 false):=by rw[←hHC,YW,if_pos rfl]
   have kC:H.le HC:=⟨by rw[nHC];exact kH.next,fun b hb=>(kHC b (by omega)).trans (kH.get b hb)⟩
   have uC:=(hu.le kC).2
   have uf:=uC.first (by omega)
   rw[List.length_map]at uf
   obtain⟨v2,H2,ap,gr,kp⟩:=copied (bytes:=40) uC (by omega) (by omega) (EZ x.ai) (by rw[List.length_map];omega) (by rw[List.length_map];omega) (Grow.nil HC HC.next 4) (Nat.le_refl _) (by rw[List.length_map];simp;omega) (by rw[List.length_map];simp;omega)
   rw[List.length_map]at ap
   obtain⟨csD,hDq⟩: ∃X,Z6.take (i*7+6)++v2::Z6.drop (i*7+7)=X:=⟨_,rfl⟩
   have hDm:csD=cs.take (i*7)++(aC {x with fr:=R.me,to:=(i:Int)} v2++cs.drop (i*7+7)):=by rw[←hDq,hCm];exact LG ht (by rw[List.length_set,List.length_set,qA];omega) _
   have g2:H2.get (H.next+1)=some (.cells Z6 false):=(kp.get _ (by omega)).trans oHC
   have x2:H2.get H.next=some (.cells (aC x (.slice ua x.ai.length si)) false):=(kp.get _ (by omega)).trans ((kHC _ (by omega)).trans xH)
   simp only[aC]at xH hA
   have xC:=(kHC H.next (by omega)).trans xH
   have b2:i*7+1+1≤csA.length:=by omega
   have b3:i*7+2+1≤csB.length:=by omega
   have b4:i*7+6+1≤Z6.length:=by omega
   obtain⟨v2a,v2c,hv2⟩:=gr.len
   have o2:cO v2=true:=by rw[hv2];rfl
   have c2v:v2.cells = #[v2]:=by rw[hv2];rfl
   have ep1: ¬ p=H.next+1:=by omega
   have hA':=hA.symm
   simp only[List.cons_append,List.nil_append]at hA'
   simp -implicitDefEqProofs [t0,t3,t5,t13,t14,hiN,qaB,xH,oH,b1,gH,hA',hBq,b2,hCq,b3,hHC,ep1,xC,bG,uf,ap,g2,hDq,b4,o2,c2v,wi]
   have hti:((lQ R x).take i).length=i:=by rw[List.length_take];omega
   have lay':QF csD N ((lQ R x).take (i+1)) (us++[v2]):=by
    rw[List.take_add_one,XE i hiN]
    exact lay.put (x:={x with fr:=R.me,to:=(i:Int)}) (by omega) (by rw[hti];exact hDm)
   have kk:aa.le HC H2:=⟨kp.next,fun b hb=>kp.get b hb⟩
   have n2:=kp.next
   have f3:Fr (fun b=>b=H.next+1) H' (H2.set (H.next+1) (.cells csD false)):=by
    refine⟨by rw[YY];omega,fun b hb hne=> ?_⟩
    rw[YW,if_neg hne,kk.get b (by omega),kHC b hne]
   refine⟨N-(i+1),by omega,i+1,by omega,rfl,rfl,(kC.trans kk).set (by omega) _,by omega,x2,us++[v2],lay',fun j w hw=> ?_⟩
   have hul:us.length=i:=by have:=lay.2.1;omega
   by_cases hj:j<us.length
   ·rw[List.getElem?_append_left hj]at hw
    refine((ZR j w hw).fr f3 (fun b hb e=>by omega)).weak fun b hb=>⟨hb.1,?_⟩
    have:=f3.next
    rw[YY]at this
    omega
   ·rw[List.getElem?_append_right (by omega)]at hw
    have hz:j-us.length=0:=by
     refine Classical.byContradiction fun hne=> ?_
     rw[List.getElem?_eq_none (by simp;omega)]at hw
     cases hw
    rw[hz]at hw
    simp only[List.getElem?_cons_zero,Option.some.injEq]at hw
    subst hw
    have f4:Fr (fun b=>b=H.next+1) H2 (H2.set (H.next+1) (.cells csD false)):=(Fr.refl (fun b=>b=H.next+1) H2).set (.inl rfl) _
    exact(gr.QD.fr f4 (fun b hb e=>by omega)).weak fun b hb=>⟨by omega,hb.2⟩
  ·have qaB: ¬ (i:Int)<(N:Int):=by omega
   have hie:i=N:=by omega
   subst hie
   rw[show(lQ R x).take i=lQ R x by rw[←hall,List.take_length]]at lay
   obtain⟨l1,l2,l3,l4⟩:=lay
   rw[hall,List.take_of_length_le (by omega)]at l4
   have hzl:=eX l2
   have h7r: ∀r ∈ List.zipWith aC (lQ R x) us,r.length=7:=by
    intro r hr
    obtain⟨j,hj⟩:=List.getElem?_of_mem hr
    rw[List.getElem?_zipWith]at hj
    split at hj
    ·injection hj with hj;subst hj;rfl
    ·cases hj
   have QG:qJ H' 7 (.slice (some ⟨H.next+1,0,none⟩) i i) (List.zipWith aC (lQ R x) us):=by
    refine⟨_,i,by rw[hzl,hall],fun _=>⟨H.next+1,0,cs,false,rfl,by omega,oH,fun j r hj=> ?_⟩⟩
    have:=rX _ 7 j r h7r hj
    rw[←l4]at this
    exact⟨h7r r (List.mem_of_getElem? hj),by simpa using this.1,by simpa using this.2⟩
   simp -implicitDefEqProofs [t0,t3,t5,t13,t14,hiN,qaB]
   refine hK _ H' kH ⟨us,by rw[l2],⟨⟨QG,fun b o m cc e _=> ?_⟩,QG,_,i,by rw[hzl,hall],.inr ⟨_,_,rfl⟩,.inl ⟨by unfold dY;omega,by rw[hzl,hall];exact Nat.le_refl _⟩⟩,fun j y w hy hw=> ?_,.inr ⟨fun hz=> ?_,.inl ?_⟩⟩
   ·simp only[Value.slice.injEq,Option.some.injEq,Addr.mk.injEq]at e
    omega
   ·have RA:=(List.getElem?_eq_some_iff.1 hy).1
    rw[XE j (by omega)]at hy
    injection hy with hy
    subst hy
    exact(ZR j w hw).weak fun b hb=>⟨by omega,hb.2⟩
   ·have:=congrArg List.length hz
    rw[hzl,hall]at this
    simp at this
    omega
   ·refine⟨h7r,H.next+1,0,cs,false,by omega,by rw[hzl,hall];unfold dY;omega,by rw[hzl,hall],oH,?_,?_⟩
    ·rw[List.drop_zero,hzl,hall,List.take_of_length_le (by omega)];exact l4
    ·rw[hzl,hall];omega
end
end
section
structure qV (c:Ctx):Prop where
 ba:iG c
 bb:bN c
 bd:qh c
 RB:ry c
 pT:Ox c
 acc:pW c
 ins:TD c
 Vl:sF c
 lT:LB c
 lN:OC c
 rep:OD c
 ty:List.Nodup [c.Ty 7,c.Ty 8,c.Ty 9,c.Ty 10,c.Ty 11,c.Ty 12]
def uk (s a n:Int):az:=⟨1,0,0,s,a,n,[]⟩
def Rp.lead (R:Rp):Rp×List az:=
 if (R.P.lead R.A.pa R.A.pn (gD R.L)).2.2≠0 then (R,[])
 else ({R with P:=(R.P.lead R.A.pa R.A.pn (gD R.L)).1,A:=(R.A.promise (R.P.lead R.A.pa R.A.pn (gD R.L)).2.1.1 (R.P.lead R.A.pa R.A.pn (gD R.L)).2.1.2 (gD R.L)).1},
  lQ R (uk (gD R.L) (R.P.lead R.A.pa R.A.pn (gD R.L)).2.1.1 (R.P.lead R.A.pa R.A.pn (gD R.L)).2.1.2))
def cB (k:Int)(v:ay):az:=⟨k,0,0,0,0,0,[v]⟩
def Rp.ax (R:Rp)(s:ByteArray):Rp×List az×Int:=
 if (R.P.ax s).2≠0 then (R,[],(R.P.ax s).2)else ({R with P:=(R.P.ax s).1},lQ R (cB 3 (R.P.vK s)),0)
def Rp.isNode (R:Rp)(i:Int):Bool:=decide (0≤i)&&decide (i<R.n)
def Sz (R:Rp)(i:Int):az:=⟨5,R.me,i,gD R.L,0,0,[]⟩
def Rp.ask (R:Rp)(i:Int):List az:=if R.isNode i then [Sz R i]else []
theorem UE {P:bC}{a n fr:Int}(h:(P.lead a n fr).2.2≠0):(P.lead a n fr).1=P:=by
 unfold bC.lead at h ⊢
 split
 ·rfl
 ·split
  ·rfl
  ·rename_i h1 h2
   rw[if_neg h1,if_neg h2]at h
   exact absurd rfl h
theorem OG {P:bC}{s:ByteArray}(h:(P.ax s).2≠0):(P.ax s).1=P:=by
 unfold bC.ax at h ⊢
 split
 ·rfl
 ·split
  ·rfl
  ·split
   ·rfl
   ·rename_i h1 h2 h3
    rw[if_neg h1,if_neg h2,if_neg h3]at h
    exact absurd rfl h
theorem LH {H:aa}{b n:Nat}{x:az}{u:Value}{D:Nat→Prop}(hg:H.get b=some (.cells (aC x u) false))(hb:b<H.next)(hn:n≤b)(hu:eP D H 4 u (x.ai.map aG))(hD: ∀b,D b→n≤b∧b<H.next):
 gB (fun b=>n≤b∧b<H.next) H (.slice (some ⟨b,0,none⟩) 1 1) [x]:=by
 have QG:qJ H 7 (.slice (some ⟨b,0,none⟩) 1 1) [aC x u]:=⟨_,1,rfl,fun _=>⟨b,0,_,false,rfl,hb,hg,fun j r hj=>by
  match j,hj with
  |0,hj=>simp at hj;subst hj;exact⟨rfl,rfl,Nat.le_refl _⟩
  |j+1,hj=>simp at hj⟩⟩
 refine⟨[u],rfl,⟨⟨QG,fun b' o m cc e _=> ?_⟩,QG,_,1,rfl,.inr ⟨_,_,rfl⟩,.inl ⟨by unfold dY;omega,Nat.le_refl _⟩⟩,fun j y w hy hw=> ?_,.inr ⟨by simp,.inl ⟨by simp[aC],b,0,_,false,hb,by simp[dY],rfl,hg,by simp[aC],by simp[aC]⟩⟩⟩
 ·simp only[Value.slice.injEq,Option.some.injEq,Addr.mk.injEq]at e
  obtain⟨⟨rfl,-⟩,-⟩:=e
  exact⟨hn,hb⟩
 ·match j,hy,hw with
  |0,hy,hw=>simp at hy hw;subst hy;subst hw;exact hu.weak hD
  |j+1,hy,_=>simp at hy
section
variable (c:Ctx) (hc:qV c) {H:aa} {K:Value→aa→Prop} {B:Nat→Prop} {p:Nat} {R:Rp}
include hc in
theorem QH {i:Int}(h:wO B H p R)(hK:K (.bool (R.isNode i)) H):c.C (c.F xL) [.pointer (some ⟨p,0,none⟩),.int .i64 i] H K:=by
 refine c.enter hc.rep.zK rfl ?_
 obtain⟨pa,pp,pl,ig,jc,gL,h,_⟩:=h
 have g:=h.get
 unfold Rp.isNode at hK
 by_cases h1:0≤i
 ·simp -implicitDefEqProofs [gz,g,aT,h1]
  simpa[h1]using hK
 ·simp -implicitDefEqProofs [gz,g,aT,h1]
  simpa[h1]using hK
include hc in
theorem LJ {k:Int}{v:ay}(h:wO B H p R)(ho:R.ok)(hK: ∀u H',H.le H'→gB (fun b=>H.next≤b∧b<H'.next) H' u (lQ R (cB k v))→K u H'):
 c.C (c.F xM) [.pointer (some ⟨p,0,none⟩),.int .i64 k,vV v] H K:=by
 refine c.enter hc.rep.zL rfl ?_
 obtain⟨pa,pp,pl,ig,jc,gL,h,_⟩:=h
 have hq:=eB ho.1.1
 rw[ho.2.1]at hq
 obtain⟨H1,hH1⟩: ∃X:aa,X=(H.alloc (.cells (aG v) false)).alloc (.cells (aG v) false):=⟨_,rfl⟩
 have k1:H.le H1:=by rw[hH1];exact(H.aj _).alloc _
 have n1:H1.next=H.next+2:=by rw[hH1];rfl
 have b1:H1.get (H.next+1)=some (.cells (aG v) false):=by rw[hH1,YV,YX,if_pos rfl]
 have WH:(H.alloc (.cells [.int .i64 v.slot,.int .i64 v.a,.int .i64 v.n,.string v.val] false)).alloc (.cells [.int .i64 v.slot,.int .i64 v.a,.int .i64 v.n,.string v.val] false)=H1:=by rw[hH1];rfl
 have QG:qJ H1 4 (.slice (some ⟨H.next+1,0,none⟩) 1 1) [aG v]:=⟨_,1,rfl,fun _=>⟨H.next+1,0,_,false,rfl,by omega,b1,fun j r hj=>by
  match j,hj with
  |0,hj=>simp at hj;subst hj;exact⟨rfl,rfl,Nat.le_refl _⟩
  |j+1,hj=>simp at hj⟩⟩
 have hsw:eP (fun b=>H.next≤b∧b<H1.next) H1 4 (.slice (some ⟨H.next+1,0,none⟩) 1 1) [aG v]:=by
  refine⟨⟨QG,fun b' o m cc e _=> ?_⟩,QG,_,1,rfl,.inr ⟨_,_,rfl⟩,.inl ⟨by unfold dY;omega,Nat.le_refl _⟩⟩
  simp only[Value.slice.injEq,Option.some.injEq,Addr.mk.injEq]at e
  omega
 simp -implicitDefEqProofs [jM,vV,WH]
 refine av (TJ c hc.rep (R:=R) (x:=cB k v) (p:=p) (by have:=h.lt;omega) ⟨_,_,_,(k1.get p h.lt).trans h.get⟩ hq.1 hq.2.1 hsw (by simp[cB]) fun w H2 k2 nt=> ?_)
 simp -implicitDefEqProofs []
 exact hK w H2 (k1.trans k2) (nt.weak fun b hb=>⟨by omega,hb.2⟩)
include hc in
theorem QI {s:ByteArray}(h:wO B H p R)(ho:R.ok)(hK: ∀u H',Fr B H H'→wO B H' p (R.ax s).1→gB (fun b=>H.next≤b∧b<H'.next) H' u (R.ax s).2.1→K (.tuple #[u,.int .i64 (R.ax s).2.2]) H'):
 c.C (c.F tN) [.pointer (some ⟨p,0,none⟩),.string s] H K:=by
 refine c.enter hc.rep.vR rfl ?_
 obtain⟨pa,pp,pl,ig,jc,gL,h,hB⟩:=h
 have g:=h.get
 simp -implicitDefEqProofs [gW,aT,g]
 refine av (Qw c hc.RB h.q ho.1 fun H1 f1 i1=> ?_)
 obtain⟨h1,Wq,_⟩:=h.RB f1 (fun b hb=>.inl hb) i1
 obtain⟨v,hv⟩: ∃v,v=R.P.vK s:=⟨_,rfl⟩
 obtain⟨H2,hH2⟩: ∃X:aa,X=(H1.alloc (.cells [.int .i64 0,.int .i64 0,.int .i64 0,.string ⟨#[]⟩] false)).set H1.next (.cells [.int .i64 v.slot,.int .i64 v.a,.int .i64 v.n,.string v.val] false):=⟨_,rfl⟩
 have k2:H1.le H2:=by rw[hH2];exact(H1.aj _).set (Nat.le_refl _) _
 have b2:H2.get H1.next=some (.cells [.int .i64 v.slot,.int .i64 v.a,.int .i64 v.n,.string v.val] false):=by rw[hH2,YW,if_pos rfl]
 rw[←hv]
 by_cases he:(R.P.ax s).2=0
 ·have hp:R.ax s=({R with P:=(R.P.ax s).1},lQ R (cB 3 v),0):=by unfold Rp.ax;rw[if_neg (by simpa using he),hv]
  rw[hp]at hK
  have ho':Rp.ok {R with P:=(R.P.ax s).1}:=by
   refine⟨ho.1.ax s,?_,?_,ho.2.2.2.1,ho.2.2.2.2⟩
   ·have:(R.P.ax s).1.n=R.P.n:=by unfold bC.ax;(repeat' split) <;> rfl
    exact this.trans ho.2.1
   ·have:(R.P.ax s).1.me=R.P.me:=by unfold bC.ax;(repeat' split) <;> rfl
    exact this.trans ho.2.2.1
  simp -implicitDefEqProofs [vV,he,←hH2,b2]
  refine av (LJ c hc (R:={R with P:=(R.P.ax s).1}) (B:=B) (k:=3) (v:=v) ⟨pa,pp,pl,ig,jc,gL,h1.le k2,hB⟩ ho' fun u H3 k3 nt=> ?_)
  simp -implicitDefEqProofs []
  refine hK u H3 ((Wq.iff hB).jg (k2.trans k3)) ⟨pa,pp,pl,ig,jc,gL,h1.le (k2.trans k3),hB⟩ (nt.weak fun b hb=>⟨?_,hb.2⟩)
  have:=f1.next;have:=k2.next;omega
 ·have hp:R.ax s=(R,[],(R.P.ax s).2):=by unfold Rp.ax;rw[if_pos he]
  rw[hp]at hK
  simp -implicitDefEqProofs [vV,he,←hH2]
  rw[OG he]at h1
  exact hK _ H2 ((Wq.iff hB).jg k2) ⟨pa,pp,pl,ig,jc,gL,h1.le k2,hB⟩ (gB.nil _ _)
include hc in
theorem Zj {i:Int}(h:wO B H p R)(hK: ∀u H',H.le H'→gB (fun b=>H.next≤b∧b<H'.next) H' u (R.ask i)→K u H'):
 c.C (c.F yw) [.pointer (some ⟨p,0,none⟩),.int .i64 i] H K:=by
 refine c.enter hc.rep.AY rfl ?_
 simp -implicitDefEqProofs [jX]
 refine av (QH c hc h ?_)
 unfold Rp.ask at hK
 cases hn:R.isNode i with
 |false=>
  rw[hn]at hK
  simp -implicitDefEqProofs []
  exact hK _ H (aa.le_refl _) (gB.nil _ _)
 |true=>
  rw[hn,if_pos rfl]at hK
  obtain⟨pa,pp,pl,ig,jc,gL,h,hB⟩:=h
  have g:=h.get
  simp -implicitDefEqProofs [g]
  refine aI c.mono (WE c hc.Vl hc.lT h.l ?_)
  obtain⟨H1,hH1⟩: ∃X:aa,X=H.alloc (.cells (aC (Sz R i) (.slice none 0 0)) false):=⟨_,rfl⟩
  have WH:H.alloc (.cells [.int .i64 5,.int .i64 R.me,.int .i64 i,.int .i64 (gD R.L),.int .i64 0,.int .i64 0,.slice none 0 0] false)=H1:=by rw[hH1];rfl
  have k1:H.le H1:=by rw[hH1];exact H.aj _
  simp -implicitDefEqProofs [g,WH]
  exact hK _ H1 k1 (LH (D:=fun _=>False) (x:=Sz R i) (by rw[hH1,YV,if_pos rfl]) (by rw[hH1,YX];omega) (Nat.le_refl _) (eP.nil _ _ _) fun _ h=>h.elim)
include hc in
theorem Zk (h:wO B H p R)(hK: ∀v H',H.le H'→Grow H' H.next 1 v ((DF R.L 0).map fun x=>[.string x])→K v H'):c.C (c.F yx) [.pointer (some ⟨p,0,none⟩)] H K:=by
 refine c.enter hc.rep.AZ rfl ?_
 obtain⟨pa,pp,pl,ig,jc,gL,h,hB⟩:=h
 have g:=h.get
 simp -implicitDefEqProofs [jY,aT,g]
 refine av (Z5 c hc.Vl hc.lT h.l fun v H' k gr=> ?_)
 simp -implicitDefEqProofs []
 exact hK v H' k gr
include hc in
theorem UF (h:wO B H p R)(hK:K (.bool (decide (R.P.does=2))) H):c.C (c.F vQ) [.pointer (some ⟨p,0,none⟩)] H K:=by
 refine c.enter hc.rep.yB rfl ?_
 obtain⟨pa,pp,pl,ig,jc,gL,h,hB⟩:=h
 have g:=h.get
 simp -implicitDefEqProofs [jl,aT,g]
 refine av (Nh c hc.RB h.q ?_)
 simp -implicitDefEqProofs []
 exact hK
end
end
section
theorem Fr.one (H:aa)(i:Nat)(o:fK):Fr (fun b=>b=i) H (H.set i o):=(Fr.refl (fun b=>b=i) H).set (.inl rfl) o
section
variable (c:Ctx) (hc:qV c) {H:aa} {K:Value→aa→Prop} {B:Nat→Prop} {p:Nat} {R:Rp}
def Said (B:Nat→Prop)(H:aa)(p:Nat)(R':Rp)(l:List az)(u:Value)(H':aa):Prop:=
 ∃B',Fr B H H'∧(∀b,B' b→B b∨H.next≤b)∧wO B' H' p R'∧gB (fun b=>H.next≤b∧b<H'.next∧¬ B' b) H' u l
include hc in
theorem WI (h:wO B H p R)(ho:R.ok)(hK: ∀u H',Said B H p R.lead.1 R.lead.2 u H'→K u H'):
 c.C (c.F xK) [.pointer (some ⟨p,0,none⟩)] H K:=by
 refine c.enter hc.rep.zJ rfl ?_
 obtain⟨pa,pp,pl,ig,jc,gL,h,hB⟩:=h
 have g:=h.get
 have hlt:=h.lt
 have hq:=eB ho.1.1
 rw[ho.2.1]at hq
 have e1: ¬ p=H.next:=by omega
 simp -implicitDefEqProofs [jL,aT,g]
 refine av (WE c hc.Vl hc.lT h.l ?_)
 obtain⟨nx,hnx⟩: ∃nx,nx=gD R.L:=⟨_,rfl⟩
 rw[←hnx]
 obtain⟨H1,hH1⟩: ∃X:aa,X=H.alloc (.cells [.int .i64 0,.int .i64 0] false):=⟨_,rfl⟩
 have k1:H.le H1:=by rw[hH1];exact H.aj _
 have n1:H1.next=H.next+1:=by rw[hH1];rfl
 have b1:H1.get H.next=some (.cells [.int .i64 0,.int .i64 0] false):=by rw[hH1,YV,if_pos rfl]
 simp -implicitDefEqProofs [g,←hH1]
 have hr1:=h.le k1
 have g1:=(k1.get p hlt).trans g
 refine aI c.mono (Sy c hc.acc hr1.a fun H2 k2=> ?_)
 have hr2:=hr1.le k2
 have g2:=(k2.get p (by omega)).trans g1
 simp -implicitDefEqProofs [g2]
 refine aI c.mono (Wm c hc.ba hc.bd hc.RB hr2.q fun H3 Bx3 f3 s3 i3=> ?_)
 obtain⟨hr3,f3',u3⟩:=hr2.RB f3 s3 i3
 obtain⟨x,hx⟩: ∃x,x=R.P.lead R.A.pa R.A.pn nx:=⟨_,rfl⟩
 rw[←hx]at hr3 ⊢
 have n2:=k2.next
 have n3:=f3.next
 have nu: ¬ xO p ig jc gL H.next:=fun hh=>by have:=h.zN _ hh;omega
 have b3:=(f3'.get H.next (by omega) nu).trans ((k2.get H.next (by omega)).trans b1)
 have F3:Fr (xO p ig jc gL) H H3:=(k1.trans k2).lq f3'
 obtain⟨H4,qN⟩: ∃X:aa,X=H3.set H.next (.cells [.int .i64 x.2.1.1,.int .i64 x.2.1.2] false):=⟨_,rfl⟩
 have f4:Fr (fun b=>b=H.next) H3 H4:=by rw[qN];exact Fr.one _ _ _
 have F4:Fr (xO p ig jc gL) H H4:=by rw[qN];exact F3.set (.inr (Nat.le_refl _)) _
 have b4:H4.get H.next=some (.cells [.int .i64 x.2.1.1,.int .i64 x.2.1.2] false):=by rw[qN,YW,if_pos rfl]
 have hs3: ∀b,xO p ig Bx3 gL b→xO p ig jc gL b∨H.next≤b:=fun b hb=>(u3 b hb).imp id fun z=>by omega
 have nu3: ¬ xO p ig Bx3 gL H.next:=by
  intro hh
  rcases u3 _ hh with z|z
  ·exact nu z
  ·omega
 have hr4:=hr3.fr f4 (fun b hb e=>nu3 (e▸hb))
 have n4:H4.next=H3.next:=by rw[qN];rfl
 simp -implicitDefEqProofs [vB,b3,←qN]
 by_cases he:x.2.2=0
 ·have hl:R.lead=({R with P:=x.1,A:=(R.A.promise x.2.1.1 x.2.1.2 nx).1},lQ R (uk nx x.2.1.1 x.2.1.2)):=by
   unfold Rp.lead;rw[←hnx,←hx,if_neg (by simpa using he)]
  rw[hl]at hK
  have g4:=hr4.get
  simp only at g4
  have e4: ¬ p=H.next:=e1
  simp -implicitDefEqProofs [he,g4,b4]
  refine aI c.mono (Nk c hc.acc hc.ba (A:=R.A) (a:=x.2.1.1) (n:=x.2.1.2) hr4.a (Nat.le_trans (Ko ho.2.2.2.2 h.a.sorted) (by omega)) fun v5 H5 f5 a5 w5=> ?_)
  obtain⟨hr5,f5',u5⟩:=hr4.acc f5 (fun b hb=>.inl hb) a5
  have n5:=f5.next
  have b5:=(f5'.get H.next (by omega) nu3).trans b4
  simp -implicitDefEqProofs [b5]
  refine av (TJ c hc.rep (R:=R) (x:=uk nx x.2.1.1 x.2.1.2) (D:=fun _=>False) (by have:=hr5.lt;omega) ⟨_,_,_,hr5.get⟩ hq.1 hq.2.1 (eP.nil _ _ _) (by simp[uk]) fun v6 H6 k6 nt=> ?_)
  simp -implicitDefEqProofs []
  refine hK v6 H6 ⟨xO p ig Bx3 gL,?_,fun b hb=> ?_,⟨pa,pp,pl,ig,Bx3,gL,hr5.le k6,fun b=>Iff.rfl⟩,nt.weak fun b hb=>⟨by omega,hb.2,fun hh=>by have:=hr5.zN b hh;omega⟩⟩
  ·exact((F4.trans f5' hs3).iff hB).jg k6
  ·rcases u3 b hb with z|z
   ·exact .inl ((hB b).2 z)
   ·exact .inr (by omega)
 ·have hl:R.lead=(R,[]):=by unfold Rp.lead;rw[←hnx,←hx,if_pos he]
  rw[hl]at hK
  simp -implicitDefEqProofs [he]
  refine hK _ H4 ⟨xO p ig Bx3 gL,F4.iff hB,fun b hb=> ?_,⟨pa,pp,pl,ig,Bx3,gL,?_,fun b=>Iff.rfl⟩,gB.nil _ _⟩
  ·exact(hs3 b hb).imp (hB b).2 id
  ·rw[hx]at he
   rw[hx,UE he]at hr4
   exact hr4
def Rp.new (n me:Int):Rp:=⟨n,me,⟨0,0,0,[]⟩,bC.new n me,⟨n,0,fun _=>none,fun _=>none⟩⟩
theorem Rp.qaC {n me:Int}(h1:aO n≠0)(h2:0≤me)(h3:me<n):(Rp.new n me).ok:=
 ⟨Wp h1 h2 h3,rfl,rfl,rfl,Int.le_refl _,by show(0:Int)≤1024;omega,by show bJ 0 0=true;decide,fun _ h=>by cases h⟩
include hc in
theorem TK {n me:Int}(h0:(aO n=0∨me<0∨n≤me)→∀H',H.le H'→K (.pointer none) H')(hK:aO n≠0→0≤me→me<n→∀p B H',H.le H'→(∀b,B b→H.next≤b)→wO B H' p (Rp.new n me)→K (.pointer (some ⟨p,0,none⟩)) H'):
 c.C (c.F MF) [.int .i64 n,.int .i64 me] H K:=by
 refine c.enter hc.rep.QC rfl ?_
 simp -implicitDefEqProofs [uL]
 refine av (qbs c hc.acc fun pa ig H1 k1 ba1 a1=> ?_)
 have n1:=k1.next
 simp -implicitDefEqProofs []
 refine av (TA c hc.bb hc.RB (fun hbad=> ?_) fun q0 q1 q2 pp jc H2 k2 bp2 p2=> ?_)
 ·simp -implicitDefEqProofs []
  refine av (WC c hc.Vl hc.bb (fun _=> ?_) fun _ pl gL H2 k2 _ _=> ?_)
  ·simp -implicitDefEqProofs [aT]
   exact h0 hbad _ (k1.alloc _)
  ·simp -implicitDefEqProofs [aT]
   exact h0 hbad _ ((k1.trans k2).alloc _)
 ·have n2:=k2.next
  simp -implicitDefEqProofs []
  refine av (WC c hc.Vl hc.bb (fun hz=>absurd hz q0) fun _ pl gL H3 k3 bl3 l3=> ?_)
  have n3:=k3.next
  simp -implicitDefEqProofs [aT]
  have kA:=H3.aj (.cells [.int .i64 n,.int .i64 me,.pointer (some ⟨pa,0,none⟩),.pointer (some ⟨pp,0,none⟩),.pointer (some ⟨pl,0,none⟩)] false)
  have La:=fun b hb=>(a1.le (k2.trans k3)).lt b hb
  have Lp:=fun b hb=>(p2.le k3).lt b hb
  have Ll:=l3.lt
  refine hK q0 q1 q2 H3.next (xO H3.next ig jc gL) _ (((k1.trans k2).trans k3).trans kA) (fun b hb=> ?_) ⟨pa,pp,pl,ig,jc,gL,⟨by rw[YX];omega,by rw[YV,if_pos rfl];rfl,a1.le ((k2.trans k3).trans kA),p2.le (k3.trans kA),l3.le kA,fun hh=>by have:=La _ hh;omega,fun hh=>by have:=Lp _ hh;omega,fun hh=>by have:=Ll _ hh;omega,fun b x y=>by have:=a1.lt b x;have:=bp2 b y;omega,fun b x y=>by have:=a1.lt b x;have:=bl3 b y;omega,fun b x y=>by have:=p2.lt b x;have:=bl3 b y;omega⟩,fun b=>Iff.rfl⟩
  rcases hb with rfl|hb|hb|hb
  ·omega
  ·exact ba1 b hb
  ·have:=bp2 b hb;omega
  ·have:=bl3 b hb;omega
end
end
section
def gF (l:List ay):ay:=l.headD zx
def eZ (c:Ctx)(x:az)(u:Value):Value:=
 if x.kind=1 then .iface (c.Ty 7) (.agg (aC x u).toArray)else if x.kind=2 then .iface (c.Ty 8) (.agg (aC x u).toArray)
 else if x.kind=3∧x.ai.length=1 then .iface (c.Ty 9) (vV (gF x.ai))
 else if x.kind=4∧x.ai.length=1 then .iface (c.Ty 10) (.agg #[.int .i64 x.fr,.int .i64 (gF x.ai).slot,.int .i64 (gF x.ai).a,.int .i64 (gF x.ai).n,.string (gF x.ai).val])
 else if x.kind=5 then .iface (c.Ty 11) (.agg (aC x u).toArray)else if x.kind=6 then .iface (c.Ty 12) (.agg #[u])else .nilIface
def Rp.bQ (R:Rp)(x:az):Rp×List az:=
 if x.slot<0∨1024≤x.slot then ({R with P:=(R.P.step x.ba x.bn).1},[])
 else if (R.A.promise x.ba x.bn x.slot).2.2=false then ({R with P:=(R.P.step x.ba x.bn).1,A:=(R.A.promise x.ba x.bn x.slot).1},[])
 else ({R with P:=(R.P.step x.ba x.bn).1,A:=(R.A.promise x.ba x.bn x.slot).1},[⟨2,R.me,x.fr,0,x.ba,x.bn,(R.A.promise x.ba x.bn x.slot).2.1⟩])
def Rp.promise (R:Rp)(x:az):Rp×List az:=
 if (R.P.promise x.fr x.ba x.bn x.ai).2=false then ({R with P:=(R.P.promise x.fr x.ba x.bn x.ai).1},[])
 else if (R.P.promise x.fr x.ba x.bn x.ai).1.filled=true then ({R with P:=(R.P.promise x.fr x.ba x.bn x.ai).1},[])
 else ({R with P:=(R.P.promise x.fr x.ba x.bn x.ai).1.gG true},((R.P.promise x.fr x.ba x.bn x.ai).1.fill (LF (R.P.promise x.fr x.ba x.bn x.ai).1)).flatMap fun v=>lQ R (cB 3 v))
theorem E8 {P:bC}{fr a n:Int}{l:List ay}(h:(P.promise fr a n l).2=true):(P.promise fr a n l).1.does=2∧(P.promise fr a n l).1.n=P.n∧(P.promise fr a n l).1.me=P.me:=by
 unfold bC.promise at h ⊢
 split at h
 ·cases h
 ·rename_i h1
  rw[if_neg h1]
  split at h
  ·cases h
  ·rename_i h2
   rw[if_neg h2]
   have:=qz l (P.lZ fr.toNat)
   exact⟨rfl,this.1,this.2.1⟩
theorem Nn (P:bC)(fr a n:Int)(l:List ay):(P.promise fr a n l).1.n=P.n∧(P.promise fr a n l).1.me=P.me:=by
 have:=qz l (P.lZ fr.toNat)
 unfold bC.promise
 split
 ·exact⟨rfl,rfl⟩
 ·split
  ·exact⟨this.1,this.2.1⟩
  ·exact⟨this.1,this.2.1⟩
theorem SA (P:bC)(a n:Int):(P.step a n).1.n=P.n∧(P.step a n).1.me=P.me:=by
 unfold bC.step
 split <;> exact⟨rfl,rfl⟩
section
variable (c:Ctx) (hc:qV c) {H:aa} {K:Value→aa→Prop} {B:Nat→Prop} {p:Nat} {R:Rp}
include hc in
theorem WJ {x:az}{u:Value}{D:Nat→Prop}(hu:eP D H 4 u (x.ai.map aG))(hK: ∀H',H.le H'→K (eZ c x u) H'):c.C (c.F LD) [.agg (aC x u).toArray] H K:=by
 refine c.enter hc.rep.OE rfl ?_
 obtain⟨H0,hH0⟩: ∃X:aa,X=H.alloc (.cells (aC x u) false):=⟨_,rfl⟩
 have k0:H.le H0:=by rw[hH0];exact H.aj _
 have b0:H0.get H.next=some (.cells (aC x u) false):=by rw[hH0,YV,if_pos rfl]
 have fV:H.alloc (.cells [.int .i64 x.kind,.int .i64 x.fr,.int .i64 x.to,.int .i64 x.slot,.int .i64 x.ba,.int .i64 x.bn,u] false)=H0:=by rw[hH0];rfl
 obtain⟨ua,si,hue⟩:=hu.2.len
 rw[List.length_map]at hue
 have Iw:=hK H0 k0
 simp only[aC]at b0
 have hu0:=(hu.le k0).1.sl
 subst hue
 by_cases h1:x.kind=1
 ·have e:eZ c x (.slice ua x.ai.length si) = .iface (c.Ty 7) (.agg (aC x (.slice ua x.ai.length si)).toArray):=by unfold eZ;rw[if_pos h1]
  rw[e]at Iw
  simp only[aC,h1]at Iw
  simp only[h1]at fV b0
  simp -implicitDefEqProofs [bY,aC,fV,b0,h1]
  exact Iw
 ·by_cases h2:x.kind=2
  ·have e:eZ c x (.slice ua x.ai.length si) = .iface (c.Ty 8) (.agg (aC x (.slice ua x.ai.length si)).toArray):=by unfold eZ;rw[if_neg h1,if_pos h2]
   rw[e]at Iw
   simp only[aC,h2]at Iw
   simp only[h2]at fV b0
   simp -implicitDefEqProofs [bY,aC,fV,b0,h2]
   exact Iw
  ·have one: ∀v,x.ai=[v]→∃b o cap cs ro,(Value.slice ua x.ai.length si) = .slice (some ⟨b,o,none⟩) 1 cap∧H0.get b=some (.cells cs ro)∧(cs.drop o).take 4=aG v∧o+4≤cs.length:=by
    intro v hv
    rw[hv]at hu0 ⊢
    obtain⟨b,o,cp,cs,ro,ea,hb,hget,hrl,hrow,hbd⟩:=hu0.at (i:=0) (r:=aG v) rfl
    exact⟨b,o,cp,cs,ro,ea,hget,by simpa using hrow,by simpa using hbd⟩
   by_cases h3:x.kind=3
   ·have n4: ¬ x.kind=4:=by omega
    have n5: ¬ x.kind=5:=by omega
    have n6: ¬ x.kind=6:=by omega
    match hv:x.ai with
    |[v]=>
     have e:eZ c x (.slice ua x.ai.length si) = .iface (c.Ty 9) (vV v):=by unfold eZ;rw[if_neg h1,if_neg h2,if_pos ⟨h3,by rw[hv];rfl⟩,hv];rfl
     rw[e]at Iw
     obtain⟨b,o,cap,cs,ro,ea,hget,hrow,hbd⟩:=one v hv
     rw[ea]at b0 fV
     simp only[aG]at hrow
     rw[hv]at ea
     simp only[List.length_singleton]at ea ⊢
     rw[ea]
     simp only[vV]at Iw
     simp only[h3]at fV b0
     simp -implicitDefEqProofs [bY,aC,fV,b0,h3,hget,hrow,hbd]
     exact Iw
    |[]=>
     have e:eZ c x (.slice ua x.ai.length si) = .nilIface:=by unfold eZ;rw[if_neg h1,if_neg h2,if_neg (by rw[hv];simp),if_neg (by rw[hv];simp),if_neg n5,if_neg n6]
     rw[e]at Iw
     rw[hv]at b0 fV
     simp only[List.length_nil]at b0 fV ⊢
     simp only[h3]at fV b0
     simp -implicitDefEqProofs [bY,aC,fV,b0,h3]
     exact Iw
    |v::w::l=>
     have e:eZ c x (.slice ua x.ai.length si) = .nilIface:=by unfold eZ;rw[if_neg h1,if_neg h2,if_neg (by rw[hv];simp),if_neg (by rw[hv];simp),if_neg n5,if_neg n6]
     rw[e]at Iw
     have hl1: ¬ ((x.ai.length:Nat):Int)=1:=by rw[hv];simp;omega
     rw[←hv]
     simp only[h3]at fV b0
     simp -implicitDefEqProofs [bY,aC,fV,b0,h3,hl1]
     exact Iw
   ·by_cases h4:x.kind=4
    ·have n5: ¬ x.kind=5:=by omega
     have n6: ¬ x.kind=6:=by omega
     match hv:x.ai with
     |[v]=>
      have e:eZ c x (.slice ua x.ai.length si) = .iface (c.Ty 10) (.agg #[.int .i64 x.fr,.int .i64 v.slot,.int .i64 v.a,.int .i64 v.n,.string v.val]):=by unfold eZ;rw[if_neg h1,if_neg h2,if_neg (fun h=>h3 h.1),if_pos ⟨h4,by rw[hv];rfl⟩,hv];rfl
      rw[e]at Iw
      obtain⟨b,o,cap,cs,ro,ea,hget,hrow,hbd⟩:=one v hv
      rw[ea]at b0 fV
      simp only[aG]at hrow
      rw[hv]at ea
      simp only[List.length_singleton]at ea ⊢
      rw[ea]
      simp only[h4]at fV b0
      simp -implicitDefEqProofs [bY,aC,fV,b0,h4,hget,hrow,hbd]
      exact Iw
     |[]=>
      have e:eZ c x (.slice ua x.ai.length si) = .nilIface:=by unfold eZ;rw[if_neg h1,if_neg h2,if_neg (by rw[hv];simp),if_neg (by rw[hv];simp),if_neg n5,if_neg n6]
      rw[e]at Iw
      rw[hv]at b0 fV
      simp only[List.length_nil]at b0 fV ⊢
      simp only[h4]at fV b0
      simp -implicitDefEqProofs [bY,aC,fV,b0,h4]
      exact Iw
     |v::w::l=>
      have e:eZ c x (.slice ua x.ai.length si) = .nilIface:=by unfold eZ;rw[if_neg h1,if_neg h2,if_neg (by rw[hv];simp),if_neg (by rw[hv];simp),if_neg n5,if_neg n6]
      rw[e]at Iw
      have hl1: ¬ ((x.ai.length:Nat):Int)=1:=by rw[hv];simp;omega
      rw[←hv]
      simp only[h4]at fV b0
      simp -implicitDefEqProofs [bY,aC,fV,b0,h4,hl1]
      exact Iw
    ·by_cases h5:x.kind=5
     ·have e:eZ c x (.slice ua x.ai.length si) = .iface (c.Ty 11) (.agg (aC x (.slice ua x.ai.length si)).toArray):=by unfold eZ;rw[if_neg h1,if_neg h2,if_neg (fun h=>h3 h.1),if_neg (fun h=>h4 h.1),if_pos h5]
      rw[e]at Iw
      simp only[aC,h5]at Iw
      simp only[h5]at fV b0
      simp -implicitDefEqProofs [bY,aC,fV,b0,h5]
      exact Iw
     ·by_cases h6:x.kind=6
      ·have e:eZ c x (.slice ua x.ai.length si) = .iface (c.Ty 12) (.agg #[.slice ua x.ai.length si]):=by unfold eZ;rw[if_neg h1,if_neg h2,if_neg (fun h=>h3 h.1),if_neg (fun h=>h4 h.1),if_neg h5,if_pos h6]
       rw[e]at Iw
       simp only[h6]at fV b0
       simp -implicitDefEqProofs [bY,aC,fV,b0,h6]
       exact Iw
      ·have e:eZ c x (.slice ua x.ai.length si) = .nilIface:=by unfold eZ;rw[if_neg h1,if_neg h2,if_neg (fun h=>h3 h.1),if_neg (fun h=>h4 h.1),if_neg h5,if_neg h6]
       rw[e]at Iw
       simp -implicitDefEqProofs [bY,aC,fV,b0,h1,h2,h3,h4,h5,h6]
       exact Iw
end
end
end
theorem GrowAt.grow {o:Option Nat}{H:aa}{size:Nat}{v:Value}{rows:List (List Value)}(h:GrowAt o H size v rows){N:Nat}(hn: ∀b,o=some b→N≤b):Grow H N size v rows:=by
 cases o with
 |none=>exact .inl h
 |some b=>exact .inr ⟨h.2.1,b,hn b rfl,h.1,h.2.2.1,h.2.2.2⟩
theorem GrowAt.append {o:Option Nat}{H:aa}{size bytes:Nat}{v:Value}{rows new:List (List Value)}(h:GrowAt o H size v rows)(h0:0<size)(h1:0<bytes)(hn:(rows.length+new.length)*bytes≤140737488355328)
 (hl:rows.length+new.length≤140737488355328) (hnew: ∀r ∈ new,r.length=size) (hone:new.flatten.all cO=true):
 ∃v' H' o',aY H size bytes v new.length new.flatten=some (v',H')∧GrowAt o' H' size v' (rows++new)∧Fr (fun b=>o=some b) H H'∧((o'=o∧new=[])∨∃k,o'=some k∧H.next≤k∧new≠[]):=by
 by_cases hne:new=[]
 ·subst hne
  refine⟨v,H,o,?_,by simpa using h,Fr.refl _ _,.inl ⟨rfl,rfl⟩⟩
  exact xm (h.grow (N:=0) fun _ _=>Nat.zero_le _).buf h0 h1 (by simpa using hn) (by simpa using hl)
 ·have hlen:=dR new size hnew
  have hp:new.length≠0:=by simpa using hne
  have hps:0<new.length*size:=Nat.mul_pos (by omega) h0
  cases o with
  |none=>
   obtain⟨rfl,rfl⟩:=h
   simp only[List.length_nil,Nat.zero_add]at hn hl
   refine⟨.slice (some ⟨H.next,0,none⟩) new.length (dY+size),H.alloc (.cells new.flatten false),some H.next,?_,⟨by rw[YX];omega,hnew,rfl,by rw[YV,if_pos rfl];rfl⟩,(H.aj _).fr _,.inr ⟨_,rfl,Nat.le_refl _,hne⟩⟩
   simp only[aY,Nat.zero_add]
   rw[if_pos ⟨hn,hl,h1,h0,hlen⟩,if_neg hp]
   rfl
  |some blk=>
   obtain⟨k2,hrows,rfl,k4⟩:=h
   have hall: ∀r ∈ rows++new,r.length=size:=fun r hr=>by rcases List.mem_append.1 hr with h|h;exact hrows r h;exact hnew r h
   refine⟨.slice (some ⟨H.next,0,none⟩) (rows.length+new.length) (dY+size),(H.set blk .dead).alloc (.cells (rows.flatten++new.flatten) false),some H.next,?_,⟨by rw[YX,YY];omega,hall,by simp,by rw[YV,YY,if_pos rfl];simp⟩,?_,.inr ⟨_,rfl,Nat.le_refl _,hne⟩⟩
   ·have hf:aZ H size rows.length (.slice (some ⟨blk,0,none⟩) rows.length (dY+size))=some rows.flatten:=by
     simp only[aZ,aa.aP,k4]
     have hfl:=dR rows size hrows
     by_cases hz:rows.length*size=0
     ·rw[if_pos hz]
      have:rows.length=0:=by rcases Nat.mul_eq_zero.1 hz with h|h;exact h;omega
      simp[List.length_eq_zero_iff.1 this]
     ·rw[if_neg hz,if_pos (by omega),List.drop_zero,List.take_of_length_le (by omega)]
    have hU: ¬ (dY+size<dY):=by omega
    have hfl:=dR rows size hrows
    have hrl:rows.length*size+new.length*size=(rows.length+new.length)*size:=(Nat.add_mul ..).symm
    simp only[aY]
    rw[if_pos ⟨hn,hl,h1,h0,hlen⟩,if_neg hp,if_neg (fun h=>hU h.1)]
    simp only[hf,if_neg hU,if_true,k4,hone]
    rw[if_neg (by omega),if_pos (by omega)]
   ·exact⟨by rw[YX,YY];omega,fun b hb hnb=>by rw[YV,YY,if_neg (by omega),YW,if_neg (fun e=>hnb (by rw[e]))]⟩
def E9 (N:Nat)(o:Option Nat)(H:aa)(v:Value)(l:List az):Prop:=
 ∃us:List Value,us.length=l.length∧GrowAt o H 7 v (List.zipWith aC l us)∧(∀b,o=some b→N≤b∧l≠[]) ∧
  ∀(i:Nat) (x:az) (u:Value),l[i]? =some x→us[i]? =some u→eP (fun b=>N≤b∧b<H.next∧o≠some b) H 4 u (x.ai.map aG)
theorem E9.nil (N:Nat)(H:aa):E9 N none H (.slice none 0 0) []:=⟨[],rfl,⟨rfl,rfl⟩,(fun _ h=>by cases h),by simp⟩
theorem E9.le {N:Nat}{o:Option Nat}{H H':aa}{v:Value}{l:List az}(h:E9 N o H v l)(k:H.le H'):E9 N o H' v l:=by
 obtain⟨us,h1,h2,h3,h4⟩:=h
 exact⟨us,h1,h2.fr (k.fr fun _=>False) (fun _ _ h=>h),h3,fun i x u a b=>((h4 i x u a b).le k).weak fun b hb=>⟨hb.1,Nat.lt_of_lt_of_le hb.2.1 k.next,hb.2.2⟩⟩
theorem E9.nts {N:Nat}{o:Option Nat}{H:aa}{v:Value}{l:List az}(h:E9 N o H v l):gB (fun b=>N≤b∧b<H.next) H v l:=by
 obtain⟨us,h1,h2,h3,h4⟩:=h
 refine⟨us,h1,(h2.grow fun b hb=>(h3 b hb).1).QD,fun i x u a b=>(h4 i x u a b).weak fun b hb=>⟨hb.1,hb.2.1⟩,?_⟩
 cases o with
 |none=>exact .inl h2
 |some b=>exact .inr ⟨fun hz=>(h3 b rfl).2 (List.length_eq_zero_iff.1 (by rw[←eX h1,hz];rfl)),.inr ⟨b,h2⟩⟩
theorem gI (l:List az)(us:List Value): ∀r ∈ List.zipWith aC l us,r.length=7:=by
 intro r hr
 obtain⟨j,hj⟩:=List.getElem?_of_mem hr
 rw[List.getElem?_zipWith]at hj
 split at hj
 ·injection hj with hj;subst hj;rfl
 ·cases hj
theorem qZ.one {H:aa}{size:Nat}{v:Value}{rows:List (List Value)}(h:qZ H size v rows):cO v=true:=by
 obtain⟨a,cap,rfl⟩:=h.len;rfl
theorem um {l:List az}{us:List Value}(h: ∀u ∈ us,cO u=true):(List.zipWith aC l us).flatten.all cO=true:=by
 rw[List.all_eq_true]
 intro y hy
 obtain⟨r,hr,hy⟩:=List.mem_flatten.1 hy
 obtain⟨j,hj⟩:=List.getElem?_of_mem hr
 rw[List.getElem?_zipWith]at hj
 split at hj
 ·rename_i a b ha hb
  injection hj with hj;subst hj
  simp only[aC,List.mem_cons,List.not_mem_nil,or_false]at hy
  rcases hy with rfl|rfl|rfl|rfl|rfl|rfl|rfl <;> first|rfl|exact h _ (List.mem_of_getElem? hb)
 ·cases hj
theorem E9.append {N:Nat}{o:Option Nat}{H:aa}{v u:Value}{l m:List az}{D:Nat→Prop}(h:E9 N o H v l)(k:gB D H u m)(hD: ∀b,D b→N≤b∧b<H.next∧o≠some b)(hN:N≤H.next)(hl:(l.length+m.length)*72≤140737488355328):
 ∃v' H' o' news,aZ H 7 m.length u=some news∧aY H 7 72 v m.length news=some (v',H')∧E9 N o' H' v' (l++m)∧Fr (fun b=>o=some b) H H':=by
 obtain⟨us,h1,h2,h3,h4⟩:=h
 obtain⟨ws,k1,k2,k3,_⟩:=k
 have hzl:=eX h1
 have RD:=eX k1
 have hone: ∀w ∈ ws,cO w=true:=by
  intro w hw
  obtain⟨j,hj⟩:=List.getElem?_of_mem hw
  have hjl:=(List.getElem?_eq_some_iff.1 hj).1
  exact(k3 j m[j] w (List.getElem?_eq_getElem (by omega)) hj).2.one
 obtain⟨v',H',o',e1,e2,e3,e4⟩:=h2.append (bytes:=72) (new:=List.zipWith aC m ws) (by omega) (by omega) (by rw[hzl,RD];exact hl) (by rw[hzl,RD];omega) (gI m ws) (um hone)
 have hf:=k2.2.first (by omega)
 rw[RD]at hf e1
 refine⟨v',H',o',_,hf,e1,⟨us++ws,by simp[h1,k1],?_,?_,?_⟩,e3⟩
 ·rw[List.zipWith_append h1.symm];exact e2
 ·intro b hb
  rcases e4 with⟨e4,e5⟩|⟨x,e4,e5,e6⟩
  ·exact⟨(h3 b (e4▸hb)).1,by simp[(h3 b (e4▸hb)).2]⟩
  ·rw[e4]at hb;injection hb with hb
   refine⟨by omega,fun hz=>e6 ?_⟩
   have:m=[]:=(List.append_eq_nil_iff.1 hz).2
   rw[this];rfl
 ·have hw: ∀w (x:az),eP (fun b=>N≤b∧b<H.next∧o≠some b) H 4 w (x.ai.map aG)→eP (fun b=>N≤b∧b<H'.next∧o'≠some b) H' 4 w (x.ai.map aG):=by
   intro w x hw
   refine(hw.fr e3 fun b hb=>hb.2.2).weak fun b hb=>⟨hb.1,Nat.lt_of_lt_of_le hb.2.1 e3.next,fun hc=> ?_⟩
   rcases e4 with⟨e4,_⟩|⟨z,e4,e5,_⟩
   ·exact hb.2.2 (e4▸hc)
   ·rw[e4]at hc;injection hc with hc;omega
  intro i x w a b
  by_cases hi:i<l.length
  ·rw[List.getElem?_append_left hi]at a
   rw[List.getElem?_append_left (by omega)]at b
   exact hw w x (h4 i x w a b)
  ·rw[List.getElem?_append_right (by omega)]at a
   rw[List.getElem?_append_right (by omega),h1]at b
   exact hw w x ((k3 _ x w a b).weak hD)
section
attribute [local simp] J0 J1 J2 J3 J4 J5 J6 J7 J8 J9 Ja Jb Jc Jd Je Jf Jg Jh Ji Jj Jk Jl Jm Jn Jo Jp Jq Jr Js Jt Ju Jv Jw Jx Jy Jz JA JB JC JD JE JF JG JH JI JJ JK JL JM JN JO JP JQ JR JS aQ bZ.kind JT JU JV JW JX JY JZ Y0 Y1 Y2 Y3 Y4 Y5 Y6 Y7 Y8 Y9 Ya Yb Yc Yd Ye Yf Yg Yh Yi Yj Yk Yl Ym Yn Yo Yp Yq jq Yr Ys Yt Yu Yv Yw Yx Yy dZ bA bE Yz YA YB YC YD YE eO YF YG YH YI YJ YK YL YM YN YO YP YQ YR YS YT YU nP bK jR nG bu putAt aa.ah aa.aP aa.aK YV YW YX YY YZ B0 B1 B2 B3 B4 B5 B6 B7 B8 B9 Ba Bb Bc Bd Be Bf Bg Bh Bi Bj Bk Bl Bm Bn Bo Bp
section
def fQ (s:Int)(i:Nat):List ByteArray→List ay
 |[]=>[]
 |x::l=>⟨s+(i:Int),0,0,x⟩::fQ s (i+1) l
theorem sH (s:Int)(x:ByteArray): ∀(l:List ByteArray) (i:Nat),fQ s i (l++[x])=fQ s i l++[⟨s+((i+l.length:Nat):Int),0,0,x⟩]
 |[],i=>rfl
 |y::l,i=>by
  have:=sH s x l (i+1)
  simp only[List.cons_append,fQ,this,List.length_cons]
  rw[show i+1+l.length=i+(l.length+1)by omega]
theorem uN (s:Int): ∀(l:List ByteArray) (i:Nat),(fQ s i l).length=l.length
 |[],_=>rfl
 |y::l,i=>by simp only[fQ,List.length_cons,uN s l]
def yh (R:Rp)(x:az):List ay:=fQ x.slot 0 ((DF R.L x.slot).take 8)
def Rp.tell (R:Rp)(x:az):List az:=if x.slot<R.L.base then []else if yh R x=[]then []else [⟨6,R.me,x.fr,0,0,0,yh R x⟩]
section
variable (c:Ctx) (hc:qV c) {H:aa} {K:Value→aa→Prop} {B:Nat→Prop} {p:Nat} {R:Rp}
include hc in
theorem QJ {x:az}{u:Value}(h:wO B H p R)(ho:R.ok)(hK: ∀v H',Said B H p (R.bQ x).1 (R.bQ x).2 v H'→K v H'):
 c.C (c.F tO) [.pointer (some ⟨p,0,none⟩),.agg (aC x u).toArray] H K:=by
 refine c.enter hc.rep.vS rfl ?_
 obtain⟨pa,pp,pl,ig,jc,gL,h,hB⟩:=h
 have g:=h.get
 have hlt:=h.lt
 obtain⟨H0,hH0⟩: ∃X:aa,X=H.alloc (.cells (aC x u) false):=⟨_,rfl⟩
 have k0:H.le H0:=by rw[hH0];exact H.aj _
 have n0:H0.next=H.next+1:=by rw[hH0];rfl
 have b0:H0.get H.next=some (.cells (aC x u) false):=by rw[hH0,YV,if_pos rfl]
 have fV:H.alloc (.cells [.int .i64 x.kind,.int .i64 x.fr,.int .i64 x.to,.int .i64 x.slot,.int .i64 x.ba,.int .i64 x.bn,u] false)=H0:=by rw[hH0];rfl
 simp only[aC]at b0
 have nu: ¬ xO p ig jc gL H.next:=fun hh=>by have:=h.zN _ hh;omega
 have h0:=h.le k0
 have g0:=h0.get
 simp -implicitDefEqProofs [gY,aC,fV,b0,g0]
 refine aI c.mono (Qv c hc.ba hc.RB (a:=x.ba) (n:=x.bn) h0.q fun H1 f1 i1=> ?_)
 obtain⟨h1,Wq,_⟩:=h0.RB f1 (fun b hb=>.inl hb) i1
 have n1:=f1.next
 have b1:=(Wq.get H.next (by omega) nu).trans b0
 have g1:=h1.get
 simp only at g1
 have F1:Fr (xO p ig jc gL) H H1:=k0.lq Wq
 by_cases hs:x.slot<0∨1024≤x.slot
 ·have hp:R.bQ x=({R with P:=(R.P.step x.ba x.bn).1},[]):=by unfold Rp.bQ;rw[if_pos hs]
  rw[hp]at hK
  have fin:=hK (.slice none 0 0) H1 ⟨B,F1.iff hB,fun b hb=>.inl hb,⟨pa,pp,pl,ig,jc,gL,h1,hB⟩,gB.nil _ _⟩
  by_cases hs1:x.slot<0
  ·simp -implicitDefEqProofs [b1,hs1]
   exact fin
  ·have hs2:1024≤x.slot:=hs.resolve_left hs1
   simp -implicitDefEqProofs [b1,hs1,hs2]
   exact fin
 ·have hs1: ¬ x.slot<0:=fun h=>hs (.inl h)
  have hs2: ¬ 1024≤x.slot:=fun h=>hs (.inr h)
  simp -implicitDefEqProofs [b1,hs1,hs2,g1]
  refine aI c.mono (Nk c hc.acc hc.ba (A:=R.A) (a:=x.ba) (n:=x.bn) h1.a (Nat.le_trans (Ko ho.2.2.2.2 h.a.sorted) (by omega)) fun v2 H2 f2 a2 w2=> ?_)
  obtain⟨h2,f2',_⟩:=h1.acc f2 (fun b hb=>.inl hb) a2
  have n2:=f2.next
  have b2:=(f2'.get H.next (by omega) nu).trans b1
  have g2:=h2.get
  simp only at g2
  have F2:Fr (xO p ig jc gL) H H2:=F1.trans f2' fun b hb=>.inl hb
  cases hq:(R.A.promise x.ba x.bn x.slot).2.2 with
  |false=>
   have hp:R.bQ x=({R with P:=(R.P.step x.ba x.bn).1,A:=(R.A.promise x.ba x.bn x.slot).1},[]):=by unfold Rp.bQ;rw[if_neg hs,if_pos hq]
   rw[hp]at hK
   simp -implicitDefEqProofs []
   exact hK _ H2 ⟨B,F2.iff hB,fun b hb=>.inl hb,⟨pa,pp,pl,ig,jc,gL,h2,hB⟩,gB.nil _ _⟩
  |true=>
   obtain⟨y,hy⟩: ∃y:az,y=⟨2,R.me,x.fr,0,x.ba,x.bn,(R.A.promise x.ba x.bn x.slot).2.1⟩:=⟨_,rfl⟩
   have hp:R.bQ x=({R with P:=(R.P.step x.ba x.bn).1,A:=(R.A.promise x.ba x.bn x.slot).1},[y]):=by unfold Rp.bQ;rw[if_neg hs,if_neg (by rw[hq];simp),hy]
   rw[hp]at hK
   obtain⟨H3,hH3⟩: ∃X:aa,X=H2.alloc (.cells (aC y v2) false):=⟨_,rfl⟩
   have qaD:H2.alloc (.cells [.int .i64 2,.int .i64 R.me,.int .i64 x.fr,.int .i64 0,.int .i64 x.ba,.int .i64 x.bn,v2] false)=H3:=by rw[hH3,hy];rfl
   have k3:H2.le H3:=by rw[hH3];exact H2.aj _
   have n3:H3.next=H2.next+1:=by rw[hH3];rfl
   obtain⟨va,vc,hv2⟩:=w2.2.len
   have o2:v2.cells = #[v2]:=by rw[hv2];rfl
   have o3:cO v2=true:=by rw[hv2];rfl
   simp -implicitDefEqProofs [b2,g2,o2,o3,qaD]
   have nt:=LH (n:=H1.next) (x:=y) (u:=v2) (D:=fun b=>H1.next≤b∧b<H3.next) (show H3.get H2.next=_ by rw[hH3,YV,if_pos rfl]) (by omega) n2 (by rw[show y.ai=(R.A.promise x.ba x.bn x.slot).2.1 by rw[hy]];exact(w2.le k3).weak fun b hb=>⟨hb.1,by omega⟩) (fun b hb=>hb)
   have h3:=h2.le k3
   refine hK _ H3 ⟨B,(F2.iff hB).jg k3,fun b hb=>.inl hb,⟨pa,pp,pl,ig,jc,gL,h3,hB⟩,nt.weak fun b hb=>⟨by omega,hb.2,fun hh=> ?_⟩⟩
   have:=h1.zN b ((hB b).1 hh)
   omega
include hc in
theorem QK {x:az}{u:Value}{D:Nat→Prop}(h:wO B H p R)(ho:R.ok)(hu:eP D H 4 u (x.ai.map aG))(hD: ∀b,D b→¬ B b)(hvl:x.ai.length≤1000000)(hK: ∀v H',Said B H p (R.promise x).1 (R.promise x).2 v H'→K v H'):
 c.C (c.F tQ) [.pointer (some ⟨p,0,none⟩),.agg (aC x u).toArray] H K:=by
 refine c.enter hc.rep.vT rfl ?_
 obtain⟨pa,pp,pl,ig,jc,gL,h,hB⟩:=h
 have g:=h.get
 have hlt:=h.lt
 obtain⟨H0,hH0⟩: ∃X:aa,X=H.alloc (.cells (aC x u) false):=⟨_,rfl⟩
 have k0:H.le H0:=by rw[hH0];exact H.aj _
 have n0:H0.next=H.next+1:=by rw[hH0];rfl
 have b0:H0.get H.next=some (.cells (aC x u) false):=by rw[hH0,YV,if_pos rfl]
 have fV:H.alloc (.cells [.int .i64 x.kind,.int .i64 x.fr,.int .i64 x.to,.int .i64 x.slot,.int .i64 x.ba,.int .i64 x.bn,u] false)=H0:=by rw[hH0];rfl
 obtain⟨ua,si,hue⟩:=hu.2.len
 have ou:u.cells = #[u]:=by rw[hue];rfl
 simp only[aC]at b0
 have nu: ¬ xO p ig jc gL H.next:=fun hh=>by have:=h.zN _ hh;omega
 have h0:=h.le k0
 have g0:=h0.get
 have XE:=(eB ho.1.1).2.1
 simp -implicitDefEqProofs [gZ,aC,fV,b0,g0]
 refine aI c.mono (Qx c hc.ba hc.bb hc.RB hc.pT (fr:=x.fr) (a:=x.ba) (n:=x.bn) (l:=x.ai) h0.q ho.1.2.2.2.1 XE (hu.le k0).1 (fun b hb hh=>hD b hb ((hB b).2 (.inr (.inr (.inl hh))))) hvl fun H1 f1 i1=> ?_)
 obtain⟨h1,Wq,_⟩:=h0.RB f1 (fun b hb=>.inl hb) i1
 obtain⟨q,hq⟩: ∃q,q=R.P.promise x.fr x.ba x.bn x.ai:=⟨_,rfl⟩
 have hqn:=Nn R.P x.fr x.ba x.bn x.ai
 have UG:=ho.1.promise x.fr x.ba x.bn x.ai
 have hqd:=E8 (P:=R.P) (fr:=x.fr) (a:=x.ba) (n:=x.bn) (l:=x.ai)
 rw[←hq]at h1 hqn UG hqd ⊢
 have n1:=f1.next
 have g1:=h1.get
 simp only at g1
 have F1:Fr (xO p ig jc gL) H H1:=k0.lq Wq
 cases hq2:q.2 with
 |false=>
  have hp:R.promise x=({R with P:=q.1},[]):=by unfold Rp.promise;rw[←hq,if_pos hq2]
  rw[hp]at hK
  simp -implicitDefEqProofs []
  exact hK _ H1 ⟨B,F1.iff hB,fun b hb=>.inl hb,⟨pa,pp,pl,ig,jc,gL,h1,hB⟩,gB.nil _ _⟩
 |true=>
  simp -implicitDefEqProofs [g1]
  refine av (Wo c hc.RB hc.pT h1.q UG (fun hbad=> ?_) fun hd hf e he v2 H2 f2 i2 g2=> ?_)
  ·have hfl:q.1.filled=true:=by
    rcases hbad with hb|hb
    ·exact absurd (hqd hq2).1 hb
    ·exact hb
   have hp:R.promise x=({R with P:=q.1},[]):=by unfold Rp.promise;rw[←hq,if_neg (by rw[hq2];simp),if_pos hfl]
   rw[hp]at hK
   simp -implicitDefEqProofs []
   refine aS c.mono (fun k T H'=>T 5 = .slice none 0 0∧T 25 = .int .i64 0∧T 26 = .int .i64 0∧H'=H1) 0 ?_ ?_
   ·simp -implicitDefEqProofs []
   ·rintro k T H' ⟨t5,t25,t26,rfl⟩
    simp -implicitDefEqProofs [t5,t25,t26]
    exact hK _ H' ⟨B,F1.iff hB,fun b hb=>.inl hb,⟨pa,pp,pl,ig,jc,gL,h1,hB⟩,gB.nil _ _⟩
  ·have hee:e=LF q.1:=he.uniq (TH UG)
   subst hee
   have hf':q.1.filled=false:=hf
   obtain⟨vs,hvs⟩: ∃vs,vs=q.1.fill (LF q.1):=⟨_,rfl⟩
   have hp:R.promise x=({R with P:=q.1.gG true},vs.flatMap fun v=>lQ R (cB 3 v)):=by unfold Rp.promise;rw[←hq,if_neg (by rw[hq2];simp),if_neg (by rw[hf'];simp),←hvs]
   rw[hp]at hK
   rw[show({R with P:=q.1}:Rp).P.fill (LF q.1)=vs from hvs.symm]at g2
   obtain⟨h2,f2',_⟩:=h1.RB f2 (fun b hb=>.inl hb) i2
   have n2:=f2.next
   have F2:Fr (xO p ig jc gL) H H2:=F1.trans f2' fun b hb=>.inl hb
   have qcK:vs.length≤1024:=by
    rw[hvs]
    unfold bC.fill
    rw[ug]
    have z:=TI UG
    obtain⟨_,_,_,z4,z5,z6,_,_⟩:=UG
    omega
   have hR2:Rp.ok {R with P:=q.1.gG true}:=⟨UG.gG true,hqn.1.trans ho.2.1,hqn.2.trans ho.2.2.1,ho.2.2.2.1,ho.2.2.2.2⟩
   have hal: ∀v,(lQ R (cB 3 v)).length≤7:=by
    intro v
    have:=ho.2.1
    unfold lQ
    rw[List.length_map,List.length_range]
    omega
   have hlen: ∀l:List ay,(l.flatMap fun v=>lQ R (cB 3 v)).length≤7*l.length:=by
    intro l
    induction l with
    |nil=>exact Nat.le_refl _
    |cons v l ih=>rw[List.flatMap_cons,List.length_append,List.length_cons];have:=hal v;omega
   obtain⟨a2,cp2,hv2,_⟩:=id g2.Lg
   rw[List.length_map]at hv2
   have sv:=g2.Lg
   subst hv2
   simp -implicitDefEqProofs [g1]
   refine aS c.mono (fun k T H'=> ∃(j:Nat) (o:Option Nat),j≤vs.length∧k=vs.length-j∧T 0 = .pointer (some ⟨p,0,none⟩)∧T 24 = .slice a2 vs.length cp2∧T 25 = .int .i64 vs.length∧T 26 = .int .i64 j∧H2.le H' ∧
    E9 H2.next o H' (T 5) ((vs.take j).flatMap fun v=>lQ R (cB 3 v))) vs.length ?_ ?_
   ·refine⟨0,none,by omega,rfl,?_⟩
    simp -implicitDefEqProofs []
    exact⟨aa.le_refl _,E9.nil _ _⟩
   ·rintro k T H' ⟨j,o,hj,rfl,t0,t24,t25,t26,kH,ng⟩
    have nH:=kH.next
    by_cases hjl:j<vs.length
    ·have eD:(j:Int)<(vs.length:Int):=by omega
     have wj:IntKind.i64.wrap ((j:Int)+1)=(j:Int)+1:=wrap64 (by omega) (by omega)
     have hx0:vs[j]? =some vs[j]:=List.getElem?_eq_getElem hjl
     obtain⟨v,hv⟩: ∃v,v=vs[j]:=⟨_,rfl⟩
     rw[←hv]at hx0
     obtain⟨b5,o5,cp5,cs5,ro5,WK,hb5,Np,qca,QL,qaE⟩:=(sv.le kH).at (i:=j) (r:=aG v) (by simp[hx0])
     rw[List.length_map]at WK
     simp only[Value.slice.injEq]at WK
     obtain⟨rfl,-,rfl⟩:=WK
     simp only[aG]at QL
     obtain⟨H3,hH3⟩: ∃X:aa,X=(H'.alloc (.cells [.int .i64 0,.int .i64 0,.int .i64 0,.string ⟨#[]⟩] false)).set H'.next (.cells [.int .i64 v.slot,.int .i64 v.a,.int .i64 v.n,.string v.val] false):=⟨_,rfl⟩
     have k3:H'.le H3:=by rw[hH3];exact(H'.aj _).set (Nat.le_refl _) _
     have b3:H3.get H'.next=some (.cells [.int .i64 v.slot,.int .i64 v.a,.int .i64 v.n,.string v.val] false):=by rw[hH3,YW,if_pos rfl]
     have n3:H3.next=H'.next+1:=by rw[hH3];rfl
     simp -implicitDefEqProofs [t0,t24,t25,t26,hjl,eD,Np,QL,qaE,←hH3,b3]
     refine av (LJ c hc (k:=3) (v:=v) (R:={R with P:=q.1.gG true}) (B:=B) ⟨pa,pp,pl,ig,jc,gL,h2.le (kH.trans k3),hB⟩ hR2 fun w H4 k4 nt=> ?_)
     have nt':gB (fun b=>H3.next≤b∧b<H4.next) H4 w (lQ R (cB 3 v)):=nt
     have n4:=k4.next
     have hoN: ∀b,o=some b→b<H'.next:=by
      intro b hb
      obtain⟨us,_,z2,_⟩:=ng
      rw[hb]at z2
      exact z2.1
     have hl1:=hlen (vs.take j)
     have hl2:=hal v
     have hl3:(vs.take j).length≤1024:=by rw[List.length_take];omega
     obtain⟨v5,H5,o',news,e1,e2,e3,e4⟩:=(ng.le (k3.trans k4)).append nt' (fun b hb=>⟨by omega,hb.2,fun he=>by have:=hoN b he;omega⟩) (by omega) (by omega)
     obtain⟨wa,wc,hw⟩:=nt'.len
     subst hw
     simp -implicitDefEqProofs [t0,t24,t25,t26,bG,e1,e2,wj]
     have n5:=e4.next
     refine⟨vs.length-(j+1),by omega,j+1,by omega,rfl,rfl,?_,o',?_⟩
     ·refine⟨by omega,fun b hb=> ?_⟩
      rw[e4.get b (by omega) (fun he=>by obtain⟨us,_,_,z3,_⟩:=ng;have:=(z3 b he).1;omega),(k3.trans k4).get b (by omega),kH.get b hb]
     ·rw[List.take_add_one,hx0,List.flatMap_append]
      simpa using e3
    ·have eD: ¬ (j:Int)<(vs.length:Int):=by omega
     have uA:j=vs.length:=by omega
     subst uA
     rw[List.take_length]at ng
     simp -implicitDefEqProofs [t0,t24,t25,t26,hjl,eD]
     refine hK _ H' ⟨B,(F2.iff hB).jg kH,fun b hb=>.inl hb,⟨pa,pp,pl,ig,jc,gL,h2.le kH,hB⟩,ng.nts.weak fun b hb=>⟨by omega,hb.2,fun hh=> ?_⟩⟩
     have:=h2.zN b ((hB b).1 hh)
     omega
include hc in
theorem WL {x:az}{u:Value}(h:wO B H p R)(hK: ∀v H',H.le H'→gB (fun b=>H.next≤b∧b<H'.next) H' v (R.tell x)→K v H'):
 c.C (c.F xN) [.pointer (some ⟨p,0,none⟩),.agg (aC x u).toArray] H K:=by
 refine c.enter hc.rep.zM rfl ?_
 obtain⟨pa,pp,pl,ig,jc,gL,h,hB⟩:=h
 have g:=h.get
 have hlt:=h.lt
 obtain⟨H0,hH0⟩: ∃X:aa,X=H.alloc (.cells (aC x u) false):=⟨_,rfl⟩
 have k0:H.le H0:=by rw[hH0];exact H.aj _
 have n0:H0.next=H.next+1:=by rw[hH0];rfl
 have b0:H0.get H.next=some (.cells (aC x u) false):=by rw[hH0,YV,if_pos rfl]
 have fV:H.alloc (.cells [.int .i64 x.kind,.int .i64 x.fr,.int .i64 x.to,.int .i64 x.slot,.int .i64 x.ba,.int .i64 x.bn,u] false)=H0:=by rw[hH0];rfl
 simp only[aC]at b0
 have h0:=h.le k0
 have g0:=h0.get
 simp -implicitDefEqProofs [jN,aC,fV,b0,g0]
 refine aI c.mono (qay c hc.Vl h0.l ?_)
 by_cases hs:x.slot<R.L.base
 ·have ht:R.tell x=[]:=by unfold Rp.tell;rw[if_pos hs]
  rw[ht]at hK
  simp -implicitDefEqProofs [b0,hs]
  exact hK _ H0 k0 (gB.nil _ _)
 ·simp -implicitDefEqProofs [b0,hs,g0]
  refine aI c.mono (Z5 c hc.Vl hc.lT (u:=x.slot) h0.l fun v1 H1 k1 g1=> ?_)
  obtain⟨L,hL⟩: ∃L,L=DF R.L x.slot:=⟨_,rfl⟩
  rw[←hL]at g1
  have n1:=k1.next
  have lok:=h.l.ok
  have nxl:=E5 lok
  have hLl:L≠[]→0≤x.slot∧x.slot+L.length≤1024:=by
   intro hne
   have hl:L.length=(gD R.L-(if x.slot<R.L.base then R.L.base else x.slot)).toNat:=by rw[hL];unfold DF;rw[List.length_map,List.length_range]
   rw[if_neg hs]at hl
   have:L.length≠0:=fun hz=>hne (List.length_eq_zero_iff.1 hz)
   have z3:=lok.2.2.1
   have z2:=nxl.2.1
   omega
  have hLb:L.length≤1024:=by
   by_cases hne:L=[]
   ·rw[hne];simp
   ·have:=hLl hne;omega
  obtain⟨a1,cp1,hv1,_⟩:=id g1.Lg
  rw[List.length_map]at hv1
  have s1:=g1.Lg
  subst hv1
  have nI:=k0.trans k1
  have b1:=(k1.get H.next (by omega)).trans b0
  have g1':=(nI.get p hlt).trans g
  simp -implicitDefEqProofs []
  refine aS c.mono (fun k T H'=> ∃j:Nat,j≤L.length∧k=L.length-j∧T 0 = .pointer (some ⟨p,0,none⟩)∧T 3 = .pointer (some ⟨H.next,0,none⟩)∧T 22 = .slice a1 L.length cp1∧T 23 = .int .i64 L.length∧T 24 = .int .i64 j∧H1.le H' ∧
   Grow H' H1.next 4 (T 5) ((fQ x.slot 0 (L.take (min j 8))).map aG)) L.length ?_ ?_
  ·refine⟨0,by omega,rfl,?_⟩
   simp -implicitDefEqProofs []
   exact⟨aa.le_refl _,Grow.nil _ _ _⟩
  ·rintro k T H' ⟨j,hj,rfl,t0,t3,t22,t23,t24,kH,gr⟩
   have nH:=kH.next
   have bH:=(kH.get H.next (by omega)).trans b1
   by_cases hjl:j<L.length
   ·have eD:(j:Int)<(L.length:Int):=by omega
    have wj:IntKind.i64.wrap ((j:Int)+1)=(j:Int)+1:=wrap64 (by omega) (by omega)
    have hx0:L[j]? =some L[j]:=List.getElem?_eq_getElem hjl
    obtain⟨y,hy⟩: ∃y,y=L[j]:=⟨_,rfl⟩
    rw[←hy]at hx0
    obtain⟨b5,o5,cp5,cs5,ro5,WK,hb5,Np,hc5⟩:=(s1.le kH).at1 (i:=j) (x:=.string y) (by simp[hx0])
    rw[List.length_map]at WK
    simp only[Value.slice.injEq]at WK
    obtain⟨rfl,-,rfl⟩:=WK
    by_cases hj8:j<8
    ·have qaF:(j:Int)<8:=by omega
     have hne:L≠[]:=fun hz=>by rw[hz]at hjl;simp at hjl
     have ws:IntKind.i64.wrap (x.slot+(j:Int))=x.slot+(j:Int):=wrap64 (by have:=hLl hne;omega) (by have:=hLl hne;omega)
     obtain⟨V,hV⟩: ∃V:ay,V=⟨x.slot+(j:Int),0,0,y⟩:=⟨_,rfl⟩
     obtain⟨H2,hH2⟩: ∃X:aa,X=H'.alloc (.cells (aG V) false):=⟨_,rfl⟩
     have k2:H'.le H2:=by rw[hH2];exact H'.aj _
     have b2:H2.get H'.next=some (.cells (aG V) false):=by rw[hH2,YV,if_pos rfl]
     have qcb:H'.alloc (.cells [.int .i64 (x.slot+(j:Int)),.int .i64 0,.int .i64 0,.string y] false)=H2:=by rw[hH2,hV];rfl
     have hlen:=uN x.slot (L.take (min j 8)) 0
     have qcL:(L.take (min j 8)).length≤8:=by rw[List.length_take];omega
     have n2:=k2.next
     obtain⟨v5,H5,ap,MC,kp5⟩:=(gr.le k2).AJ (bytes:=40) (new:=aG V) (by omega) (by omega) (by omega) (by rw[List.length_map];omega) (by rw[List.length_map];omega) rfl rfl
     simp only[aG]at b2 ap
     simp -implicitDefEqProofs [t0,t3,t22,t23,t24,hjl,eD,Np,hc5,qaF,bH,ws,qcb,bG,aZ,b2,ap,wj]
     refine⟨L.length-(j+1),by omega,j+1,by omega,rfl,rfl,⟨Nat.le_trans (kH.trans k2).next kp5.next,fun b hb=>(kp5.get b hb).trans ((kH.trans k2).get b hb)⟩,?_⟩
     ·have e1:min (j+1) 8=j+1:=by omega
      have e2:min j 8=j:=by omega
      rw[e2]at MC
      rw[e1,List.take_add_one,hx0]
      simp only[Option.toList_some]
      rw[sH,List.map_append,show(0+(L.take j).length)=j by rw[List.length_take];omega]
      exact hV▸MC
    ·have qaF: ¬ (j:Int)<8:=by omega
     simp -implicitDefEqProofs [t0,t3,t22,t23,t24,hjl,eD,Np,hc5,qaF,wj]
     refine⟨L.length-(j+1),by omega,j+1,by omega,rfl,rfl,kH,?_⟩
     rw[show min (j+1) 8=8 by omega]
     rw[show min j 8=8 by omega]at gr
     exact gr
   ·have eD: ¬ (j:Int)<(L.length:Int):=by omega
    have uA:j=L.length:=by omega
    subst uA
    have hts:yh R x=fQ x.slot 0 (L.take (min L.length 8)):=by
     unfold yh
     rw[←hL]
     congr 1
     by_cases h8:L.length≤8
     ·rw[Nat.min_eq_left h8,List.take_length,List.take_of_length_le h8]
     ·rw[Nat.min_eq_right (by omega)]
    rw[←hts]at gr
    obtain⟨a9,c9,hv9⟩:=gr.len
    rw[List.length_map]at hv9
    by_cases hz:yh R x=[]
    ·have ht:R.tell x=[]:=by unfold Rp.tell;rw[if_neg hs,if_pos hz]
     rw[ht]at hK
     rw[hz]at hv9
     simp only[List.length_nil]at hv9
     simp -implicitDefEqProofs [t0,t3,t22,t23,t24,hjl,eD,hv9]
     exact hK _ H' (nI.trans kH) (gB.nil _ _)
    ·obtain⟨y,hy⟩: ∃y:az,y=⟨6,R.me,x.fr,0,0,0,yh R x⟩:=⟨_,rfl⟩
     have ht:R.tell x=[y]:=by unfold Rp.tell;rw[if_neg hs,if_neg hz,hy]
     rw[ht]at hK
     have hlz: ¬ (((yh R x).length:Nat):Int)=0:=fun hh=>hz (List.length_eq_zero_iff.1 (by omega))
     have gH:=(kH.get p (by omega)).trans g1'
     obtain⟨H3,hH3⟩: ∃X:aa,X=H'.alloc (.cells (aC y (T 5)) false):=⟨_,rfl⟩
     have k3:H'.le H3:=by rw[hH3];exact H'.aj _
     have qaD:H'.alloc (.cells [.int .i64 6,.int .i64 R.me,.int .i64 x.fr,.int .i64 0,.int .i64 0,.int .i64 0,.slice a9 (yh R x).length c9] false)=H3:=by rw[hH3,hy,hv9];rfl
     have n3:H3.next=H'.next+1:=by rw[hH3];rfl
     simp -implicitDefEqProofs [t0,t3,t22,t23,t24,hjl,eD,hv9,hz,hlz,gH,bH,qaD]
     exact hK _ H3 ((nI.trans kH).trans k3) ((LH (n:=H1.next) (D:=fun b=>H1.next≤b∧b<H3.next) (show H3.get H'.next=some (.cells (aC y (T 5)) false)by rw[hH3,YV,if_pos rfl]) (by omega) nH (by rw[show y.ai=yh R x by rw[hy]];exact(gr.QD.le k3).weak fun b hb=>⟨hb.1,by omega⟩) fun b hb=>hb).weak fun b hb=>⟨by omega,hb.2⟩)
end
end
end
end Go.Proofs.YtpbbjfighohokaaGreatI
