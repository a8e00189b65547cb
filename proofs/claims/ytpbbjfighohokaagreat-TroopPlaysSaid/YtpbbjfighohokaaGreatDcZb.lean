/- The document's nodes: promises that come. / The document's proposer and the program's: alike (plain). / The document's proposer and the program's: slots filled (plain). / The document's learner and the program's: alike (plain). / The document's learner and the program's: told, heard (plain). / The d -/
import Derived.Test.YtpbbjfighohokaaGreatDcL
namespace Go.Proofs.YtpbbjfighohokaaGreatI
open Go
set_option linter.unusedSimpArgs false
set_option linter.unusedVariables false
section
attribute [local simp] J0 J1 J2 J3 J4 J5 J6 J7 J8 J9 Ja Jb Jc Jd Je Jf Jg Jh Ji Jj Jk Jl Jm Jn Jo Jp Jq Jr Js Jt Ju Jv Jw Jx Jy Jz JA JB JC JD JE JF JG JH JI JJ JK JL JM JN JO JP JQ JR JS aQ bZ.kind JT JU JV JW JX JY JZ Y0 Y1 Y2 Y3 Y4 Y5 Y6 Y7 Y8 Y9 Ya Yb Yc Yd Ye Yf Yg Yh Yi Yj Yk Yl Ym Yn Yo Yp Yq jq Yr Ys Yt Yu Yv Yw Yx Yy dZ bA bE Yz YA YB YC YD YE eO YF YG YH YI YJ YK YL YM YN YO YP YQ YR YS YT YU nP bK jR nG bu putAt aa.ah aa.aP aa.aK YV YW YX YY YZ B0 B1 B2 B3 B4 B5 B6 B7 B8 B9 Ba Bb Bc Bd Be Bf Bg Bh Bi Bj Bk Bl Bm Bn Bo Bp
section
theorem nK.nts {D:Nat→Prop}{H:aa}{B:Nat}{w u:Value}{l:List az}(hne:l≠[])(h:Gr H B 7 w (l.map fun y=>aC y u))(hv: ∀x ∈ l,eP D H 4 u (x.ai.map aG)):gB (fun b=>D b∨(B≤b∧b<H.next)) H w l:=by
 obtain⟨us,h1,h2,h3⟩:=nK.same h hv
 have hz:us=List.replicate l.length u∨True:=.inr trivial
 refine⟨List.replicate l.length u,List.length_replicate,?_,fun i x u' a b=> ?_,?_⟩
 ·rw[FQ]
  exact h.grow.QD.weak fun b hb=>.inr hb
 ·rw[List.getElem?_replicate]at b
  split at b
  ·simp only[Option.some.injEq]at b
   subst b
   exact(hv x (List.mem_of_getElem? a)).weak fun b hb=>.inl hb
  ·simp at b
 ·rw[FQ]
  obtain⟨o,ga,gb⟩:=h
  cases o with
  |none=>exact absurd ga.1 (by simpa using hne)
  |some b=>exact .inr ⟨by simpa using hne,.inr ⟨b,ga⟩⟩
theorem gB.ns {D:Nat→Prop}{H:aa}{v:Value}{l:List az}(h:gB D H v l):nK D H v l:=by
 obtain⟨us,h1,h2,h3,_⟩:=h
 exact⟨us,h1,h2,h3⟩
theorem TR (P:DP):P.fill.1.L=P.L:=by unfold DP.fill;split <;> rfl
theorem Va (P:DP)(hr: ∀v ∈ P.L,v.slot<1024)(hf:0≤P.fr∧P.fr≤1024):P.fill.2.length≤1024:=by
 unfold DP.fill
 split
 ·simp
 ·rw[Hw];have:=Q4 P hr hf.2;omega
theorem FR (P:DP)(fr a n:Int)(l:List ay):(P.promise fr a n l).1.n=P.n∧(P.promise fr a n l).1.fr=P.fr∧(P.promise fr a n l).1.L.length≤P.L.length+l.length∧((∀v ∈ P.L,v.slot<1024)→∀v ∈ (P.promise fr a n l).1.L,v.slot<1024):=by
 have hc: ∀(l:List ay) (P:DP),(∀v ∈ P.L,v.slot<1024)→∀v ∈ (l.foldl DP.count P).L,v.slot<1024:=by
  intro l
  induction l with
  |nil=>intro P h;exact h
  |cons v l ih=>
   intro P h
   refine ih _ ?_
   unfold DP.count
   split
   ·rename_i ht
    intro w hw
    rcases List.mem_append.1 hw with hw|hw
    ·exact h w hw
    ·simp at hw;subst hw
     unfold DP.takes at ht
     simp only[Bool.and_eq_true,decide_eq_true_eq]at ht
     exact ht.2.1
   ·exact h
 have hn:=Ku l {P with who:=setW P.who fr.toNat}
 have hl:=Em l {P with who:=setW P.who fr.toNat}
 unfold DP.promise
 split
 ·exact⟨rfl,rfl,by simp,fun h=>h⟩
 ·split
  ·exact⟨hn.1,hn.2.2.1,hl,fun h=>hc l _ h⟩
  ·exact⟨hn.1,hn.2.2.1,hl,fun h=>hc l _ h⟩
section
variable (c:Ctx) (mM:dw c) (hQ:bN c) (h16:dS c) (En:eF c) (h19:dU c) (h20:eG c) (h21:fM c) {H:aa} {K:Value→aa→Prop} {D:Nat→Prop}
include mM hQ h19 in
theorem Ph {P:DP}{a:Option Addr}{k cp:Nat}{w:Value}{fr x n:Int}{l:List ay}(hu:eP D H 4 (.slice a k cp) (P.L.map aG))(hw:qJ H 4 w (l.map aG))(hn:1≤P.n∧P.n≤7)(hf0:0≤P.fr)(hl:l.length≤2000)(hL:P.L.length≤900000)(hnx:0≤P.next∧P.next≤1024)
 (hK: ∀u' H',H.le H'→eP (Nw D H H') H' 4 u' ((P.promise fr x n l).1.L.map aG)→K (.tuple #[.agg (fJ (P.promise fr x n l).1 u').toArray,.bool (P.promise fr x n l).2]) H'):
 c.C (c.F pF) [.agg (fJ P (.slice a k cp)).toArray,.int .i64 fr,vB x n,w] H K:=Q3 c mM hQ h19 hu hw hn hf0 hl hL hnx hK
include mM h16 h19 in
theorem Vb {P:DP}{a:Option Addr}{k cp:Nat}(hu:eP D H 4 (.slice a k cp) (P.L.map aG))(hL:P.L.length≤910000)(hr: ∀v ∈ P.L,v.slot<1024)(hf:0≤P.fr∧P.fr≤1024)
 (hK: ∀w H',H.le H'→Grow H' H.next 4 w (P.fill.2.map aG)→K (.tuple #[.agg (fJ P.fill.1 (.slice a k cp)).toArray,w]) H'):
 c.C (c.F sN) [.agg (fJ P (.slice a k cp)).toArray] H K:=Xh c mM h16 h19 hu hL hr hf hK
include mM hQ h16 h19 h21 in
theorem Ra {R:DR}{U:RU}{x:az}{ua:Option Addr}{uc:Nat}(h:qG D H R U)(hu:qJ H 4 (.slice ua x.ai.length uc) (x.ai.map aG))(XE:1≤R.n∧R.n≤7)(hn:1≤R.P.n∧R.P.n≤7)(hf:0≤R.P.fr∧R.P.fr≤1024)
 (hl:x.ai.length≤2000) (hL:R.P.L.length≤800000) (hnx:0≤R.P.next∧R.P.next≤1024) (hr: ∀v ∈ R.P.L,v.slot<1024)
 (hK: ∀U' w H',H.le H'→qG (Nw D H H') H' (R.promise x).1 U'→nK (fun b=>H.next≤b∧b<H'.next) H' w (R.promise x).2→K (.tuple #[.agg (dm (R.promise x).1 U').toArray,w]) H'):
 c.C (c.F yJ) [.agg (dm R U).toArray,.agg (aC x (.slice ua x.ai.length uc)).toArray] H K:=by
 refine c.enter h21.Cq rfl ?_
 unfold DR.promise at hK
 obtain⟨H0,hH0⟩: ∃X:aa,X=((H.alloc (.cells (dm R U) false)).alloc (.cells [.int .i64 x.kind,.int .i64 x.fr,.int .i64 x.to,.int .i64 x.slot,.int .i64 x.ba,.int .i64 x.bn,.slice ua x.ai.length uc] false)).alloc (.cells [.int .i64 0,.int .i64 0,.int .i64 0,.int .i64 0,.int .i64 0,.slice none 0 0,.int .i64 0,.int .i64 0,.int .i64 0,.int .i64 0,.int .i64 0,.int .i64 0,.bool false,.bool false,.bool false,.bool false,.bool false,.bool false,.bool false,.bool false,.bool false,.bool false,.slice none 0 0,.int .i64 0,.int .i64 0,.slice none 0 0,.slice none 0 0] false):=⟨_,rfl⟩
 have k0:H.le H0:=by rw[hH0];exact((H.aj _).alloc _).alloc _
 have n0:H0.next=H.next+3:=by rw[hH0];rfl
 have g0:H0.get H.next=some (.cells (dm R U) false):=by rw[hH0];simp only[YV,YW,YX,YY];repeat (first|rw[if_pos trivial]|rw[if_pos (by omega)]|rw[if_neg (by omega)])
 have g1:H0.get (H.next+1)=some (.cells [.int .i64 x.kind,.int .i64 x.fr,.int .i64 x.to,.int .i64 x.slot,.int .i64 x.ba,.int .i64 x.bn,.slice ua x.ai.length uc] false):=by rw[hH0];simp only[YV,YW,YX,YY];repeat (first|rw[if_pos trivial]|rw[if_pos (by omega)]|rw[if_neg (by omega)])
 have g2:H0.get (H.next+2)=some (.cells [.int .i64 0,.int .i64 0,.int .i64 0,.int .i64 0,.int .i64 0,.slice none 0 0,.int .i64 0,.int .i64 0,.int .i64 0,.int .i64 0,.int .i64 0,.int .i64 0,.bool false,.bool false,.bool false,.bool false,.bool false,.bool false,.bool false,.bool false,.bool false,.bool false,.slice none 0 0,.int .i64 0,.int .i64 0,.slice none 0 0,.slice none 0 0] false):=by rw[hH0];simp only[YV,YW,YX,YY];repeat (first|rw[if_pos trivial]|rw[if_pos (by omega)]|rw[if_neg (by omega)])
 obtain⟨pk1,pk2,pk3,pk4⟩:=FR R.P x.fr x.ba x.bn x.ai
 have pk4:=pk4 hr
 simp -implicitDefEqProofs [kD,aC,←hH0,g0,g1,rT6,cK,eT]
 refine av (Ph c mM hQ h19 (D:=fun b=>D b∧b<H.next) (fr:=x.fr) (x:=x.ba) (n:=x.bn) (h.p.below.le k0) (hu.le k0) hn hf.1 hl (by omega) hnx fun u' H1 k1 s1=> ?_)
 have n1:=k1.next
 obtain⟨p,rfl⟩:=s1.cut
 obtain⟨P1,hP1⟩: ∃P1,P1=(R.P.promise x.fr x.ba x.bn x.ai).1:=⟨_,rfl⟩
 obtain⟨now,VM⟩: ∃now,now=(R.P.promise x.fr x.ba x.bn x.ai).2:=⟨_,rfl⟩
 rw[←hP1]at s1 pk1 pk2 pk3 pk4
 rw[←hP1,←VM]
 rw[←hP1,←VM]at hK
 have e0:=(k1.get H.next (by omega)).trans g0
 have e2:=(k1.get (H.next+2) (by omega)).trans g2
 obtain⟨H2,hH2⟩: ∃X:aa,X=(H1.alloc (.cells [.int .i64 0,.int .i64 0,.int .i64 0,.int .i64 0,.int .i64 0,.int .i64 0,.bool false,.bool false,.bool false,.bool false,.bool false,.bool false,.bool false,.bool false,.bool false,.bool false,.slice none 0 0] false)).set H1.next (.cells (fJ P1 (.slice p.1 P1.L.length p.2)) false):=⟨_,rfl⟩
 have k2:H1.le H2:=by rw[hH2];exact(H1.aj _).set (Nat.le_refl _) _
 have n2:H2.next=H1.next+1:=by rw[hH2];rfl
 have b2:H2.get H1.next=some (.cells (fJ P1 (.slice p.1 P1.L.length p.2)) false):=by rw[hH2,YW,if_pos rfl]
 have f0:=(k2.get H.next (by omega)).trans e0
 have f2:=(k2.get (H.next+2) (by omega)).trans e2
 have rs:=rS6 (R:=R) (U:=U) (P:=P1) (p:=p)
 obtain⟨R1,ve⟩: ∃R1:DR,R1={R with P:=P1}:=⟨_,rfl⟩
 obtain⟨U1,MK⟩: ∃U1:RU,U1={U with p:=p}:=⟨_,rfl⟩
 rw[←ve,←MK]at rs
 rw[←ve]at hK
 obtain⟨H3,hH3⟩: ∃X:aa,X=H2.set H.next (.cells (dm R1 U1) false):=⟨_,rfl⟩
 have k3:H.le H3:=by rw[hH3];exact((k0.trans k1).trans k2).set (Nat.le_refl _) _
 have n3:H3.next=H2.next:=by rw[hH3];rfl
 have d0:H3.get H.next=some (.cells (dm R1 U1) false):=by rw[hH3];simp only[YV,YW,YX,YY];repeat (first|rw[if_pos trivial]|rw[if_pos (by omega)]|rw[if_neg (by omega)])
 have d2:H3.get (H.next+2)=some (.cells [.int .i64 0,.int .i64 0,.int .i64 0,.int .i64 0,.int .i64 0,.slice none 0 0,.int .i64 0,.int .i64 0,.int .i64 0,.int .i64 0,.int .i64 0,.int .i64 0,.bool false,.bool false,.bool false,.bool false,.bool false,.bool false,.bool false,.bool false,.bool false,.bool false,.slice none 0 0,.int .i64 0,.int .i64 0,.slice none 0 0,.slice none 0 0] false):=by rw[hH3,YW,if_neg (by omega)];exact f2
 have hRP:R1.P=P1:=by rw[ve]
 have hUp:U1.p=p:=by rw[MK]
 have s3:eP (fun b=>D b∧b<H.next∨H.next+3≤b∧b<H1.next) H3 4 (.slice p.1 P1.L.length p.2) (P1.L.map aG):=by
  rw[hH3]
  refine((s1.le k2).fr ((Fr.refl (fun b=>b=H.next) H2).set (.inl rfl) _) (fun b hb hn=> ?_)).weak fun b hb=> ?_
  ·have hn:b=H.next:=hn
   rcases hb with hb|hb <;> omega
  ·rcases hb with hb|hb
   ·exact .inl hb
   ·exact .inr ⟨by omega,hb.2⟩
 have isd: ∀HX,H.le HX→H3.next≤HX.next→eP (fun b=>D b∧b<H.next∨H.next+3≤b∧b<H1.next) HX 4 (.slice p.1 P1.L.length p.2) (P1.L.map aG)→∀PF:DP,PF.L=P1.L→qG (Nw D H HX) HX {R with P:=PF} U1:=by
  intro HX k n sw PF e
  have hd:=(h.le k).weak (D':=Nw D H HX) fun b hb=>.inl hb
  rw[MK]
  refine⟨hd.a,?_,hd.t,hd.v⟩
  show eP (Nw D H HX) HX 4 (.slice p.1 PF.L.length p.2) (PF.L.map aG)
  rw[e]
  exact sw.weak fun b hb=>hb.imp (fun z=>z.1) fun z=>⟨by omega,by omega⟩
 have set2: ∀{Q:aa} (o:fK),eP (fun b=>D b∧b<H.next∨H.next+3≤b∧b<H1.next) Q 4 (.slice p.1 P1.L.length p.2) (P1.L.map aG)→eP (fun b=>D b∧b<H.next∨H.next+3≤b∧b<H1.next) (Q.set (H.next+2) o) 4 (.slice p.1 P1.L.length p.2) (P1.L.map aG):=by
  intro Q o sw
  refine sw.fr ((Fr.refl (fun b=>b=H.next+2) Q).set (.inl rfl) _) (fun b hb hn=> ?_)
  have hn:b=H.next+2:=hn
  rcases hb with hb|hb <;> omega
 have set0: ∀{Q:aa} (o:fK),eP (fun b=>D b∧b<H.next∨H.next+3≤b∧b<H1.next) Q 4 (.slice p.1 P1.L.length p.2) (P1.L.map aG)→eP (fun b=>D b∧b<H.next∨H.next+3≤b∧b<H1.next) (Q.set H.next o) 4 (.slice p.1 P1.L.length p.2) (P1.L.map aG):=by
  intro Q o sw
  refine sw.fr ((Fr.refl (fun b=>b=H.next) Q).set (.inl rfl) _) (fun b hb hn=> ?_)
  have hn:b=H.next:=hn
  rcases hb with hb|hb <;> omega
 cases now with
 |false=>
  rw[if_pos rfl]at hK
  simp -implicitDefEqProofs [eT,nN,←hH2,b2,f0,qD,cK,rs,←hH3,d0,d2,iq,iY]
  have kk:H.le (H3.set (H.next+2) (.cells (dm R1 U1) false)):=k3.set (by omega) _
  have hi:=isd _ kk (by rw[YY];exact Nat.le_refl _) (set2 _ s3) P1 rfl
  rw[←ve]at hi
  exact hK U1 _ _ kk hi (nK.nil _ _)
 |true=>
  rw[if_neg (by simp)]at hK
  simp -implicitDefEqProofs [eT,nN,←hH2,b2,f0,qD,cK,rs,←hH3,d0,d2,iq,iY,rT6,hRP,hUp]
  refine av (Vb c mM h16 h19 s3 (by omega) pk4 (by rw[pk2];exact hf) fun w H4 k4 gw=> ?_)
  have n4:=k4.next
  have d0:=(k4.get H.next (by omega)).trans d0
  have d2:=(k4.get (H.next+2) (by omega)).trans d2
  have hfl:=Va P1 pk4 (by rw[pk2];exact hf)
  obtain⟨l,hll⟩: ∃l,l=P1.fill.2:=⟨_,rfl⟩
  obtain⟨PF,Ry⟩: ∃PF,PF=P1.fill.1:=⟨_,rfl⟩
  have hPL:PF.L=P1.L:=by rw[Ry];exact TR P1
  have qcn:PF.L.length=P1.L.length:=by rw[hPL]
  rw[←hll]at hfl gw hK
  rw[←Ry]at hK ⊢
  obtain⟨fa,fc,hfw⟩:=gw.len
  rw[List.length_map]at hfw
  subst hfw
  obtain⟨H5,hH5⟩: ∃X:aa,X=(H4.alloc (.cells [.int .i64 0,.int .i64 0,.int .i64 0,.int .i64 0,.int .i64 0,.int .i64 0,.bool false,.bool false,.bool false,.bool false,.bool false,.bool false,.bool false,.bool false,.bool false,.bool false,.slice none 0 0] false)).set H4.next (.cells (fJ PF (.slice p.1 P1.L.length p.2)) false):=⟨_,rfl⟩
  have k5:H4.le H5:=by rw[hH5];exact(H4.aj _).set (Nat.le_refl _) _
  have n5:H5.next=H4.next+1:=by rw[hH5];rfl
  have b5:H5.get H4.next=some (.cells (fJ PF (.slice p.1 P1.L.length p.2)) false):=by rw[hH5,YW,if_pos rfl]
  have d0:=(k5.get H.next (by omega)).trans d0
  have d2:=(k5.get (H.next+2) (by omega)).trans d2
  have ML:=rS6 (R:=R1) (U:=U1) (P:=PF) (p:=p)
  rw[qcn]at ML
  have hUU:({U1 with p:=p}:RU)=U1:=by rw[MK]
  obtain⟨R2,hR2⟩: ∃R2:DR,R2={R1 with P:=PF}:=⟨_,rfl⟩
  have XG:R2.n=R.n:=by rw[hR2,ve]
  have qco:(⟨R.n,R.me,R.A,PF,R.L⟩:DR)=R2:=by rw[hR2,ve]
  rw[hUU,←hR2]at ML
  obtain⟨H6,hH6⟩: ∃X:aa,X=H5.set H.next (.cells (dm R2 U1) false):=⟨_,rfl⟩
  have n6:H6.next=H5.next:=by rw[hH6];rfl
  have k6:H.le H6:=by rw[hH6];exact((k3.trans k4).trans k5).set (Nat.le_refl _) _
  have c0:H6.get H.next=some (.cells (dm R2 U1) false):=by rw[hH6];simp only[YV,YW,YX,YY];repeat (first|rw[if_pos trivial]|rw[if_pos (by omega)]|rw[if_neg (by omega)])
  have c2:H6.get (H.next+2)=some (.cells [.int .i64 0,.int .i64 0,.int .i64 0,.int .i64 0,.int .i64 0,.slice none 0 0,.int .i64 0,.int .i64 0,.int .i64 0,.int .i64 0,.int .i64 0,.int .i64 0,.bool false,.bool false,.bool false,.bool false,.bool false,.bool false,.bool false,.bool false,.bool false,.bool false,.slice none 0 0,.int .i64 0,.int .i64 0,.slice none 0 0,.slice none 0 0] false):=by rw[hH6,YW,if_neg (by omega)];exact d2
  have g6:Grow H6 H3.next 4 (.slice fa l.length fc) (l.map aG):=by
   rw[hH6]
   exact(gw.le k5).upd (S:=[H.next]) ((aa.iE _ _).set (.inr (by simp)) _) (fun q hq=>by simp at hq;omega)
  simp -implicitDefEqProofs [eT,nN,←hH5,b5,d0,qD,cK,ML,←hH6]
  refine aS c.mono (fun k T H'=> ∃(j:Nat) (o:Option Nat),j≤l.length∧k=l.length-j∧T 2 = .pointer (some ⟨H.next,0,none⟩)∧T 4 = .pointer (some ⟨H.next+2,0,none⟩)∧T 9 = .slice fa l.length fc∧T 11 = .int .i64 j∧H6.le H'∧E9 H6.next o H' (T 10) ((l.take j).flatMap fun v=>kJ R2 (cB 3 v))) l.length ?_ ?_
  ·refine⟨0,none,by omega,rfl,?_⟩
   simp -implicitDefEqProofs []
   exact⟨aa.le_refl _,E9.nil _ _⟩
  ·rintro k T H7 ⟨j,o,hj,rfl,t2,t4,t9,t11,k7,gr⟩
   have n7:=k7.next
   have x0:=(k7.get H.next (by omega)).trans c0
   have x2:=(k7.get (H.next+2) (by omega)).trans c2
   by_cases hjl:j<l.length
   ·have eD:(j:Int)<(l.length:Int):=by omega
    have wj:IntKind.i64.wrap ((j:Int)+1)=(j:Int)+1:=wrap64 (by omega) (by omega)
    obtain⟨v,hv⟩: ∃v,v=l[j]:=⟨_,rfl⟩
    have hx:l[j]? =some v:=by rw[hv];exact List.getElem?_eq_getElem hjl
    obtain⟨b,ob,cc,cs,ro,ea,hbl,hget,hrl,hrow,hbd⟩:=(g6.Lg.le k7).at (i:=j) (r:=aG v) (by simp[hx])
    rw[List.length_map]at ea
    simp only[Value.slice.injEq]at ea
    obtain⟨rfl,-,rfl⟩:=ea
    simp only[aG]at hrow
    simp -implicitDefEqProofs [t2,t4,t9,t11,hjl,eD,x0,cK,iq,hget,hrow,hbd]
    refine aI c.mono (Ma c h21 (R:=R2) (U:=U1) (v:=v) (by rw[XG];omega) fun w u H8 k8 gw8 gu8=> ?_)
    have n8:=k8.next
    have hne:kJ R2 (cB 3 v)≠[]:=by
     intro hz
     have:=congrArg List.length hz
     unfold kJ at this
     rw[List.length_map,List.length_range,XG]at this
     simp at this;omega
    have ns:=nK.nts hne gw8 (fun x hx=>by rw[xU R2 (cB 3 v) x hx];exact gu8)
    have hlt: ∀b,o=some b→b<H7.next:=by obtain⟨us,_,q,_,_⟩:=gr;exact q.lt
    have hlen:((l.take j).flatMap fun v=>kJ R2 (cB 3 v)).length≤7*1024:=by
     have: ∀m:List ay,(m.flatMap fun v=>kJ R2 (cB 3 v)).length≤7*m.length:=by
      intro m
      induction m with
      |nil=>simp
      |cons y m ih=>
       have:(kJ R2 (cB 3 y)).length≤7:=by unfold kJ;rw[List.length_map,List.length_range,XG];omega
       rw[List.flatMap_cons,List.length_append,List.length_cons];omega
     have:=this (l.take j)
     rw[List.length_take]at this;omega
    have qcN:(kJ R2 (cB 3 v)).length≤7:=by unfold kJ;rw[List.length_map,List.length_range,XG];omega
    obtain⟨v',H9,o',news,ff,fa9,g9,f9⟩:=(gr.le k8).append ns (fun b hb=>by
     have hb:(H7.next≤b∧b<H8.next)∨(H7.next≤b∧b<H8.next):=hb
     refine⟨by omega,by omega,fun e=> ?_⟩
     have:=hlt b e;omega) (by omega) (by omega)
    have k9:H6.le H9:=(((k7.trans k8).fr fun _=>False).trans f9 (fun b hb=>.inr (by
     obtain⟨us,_,_,q,_⟩:=gr
     have hb:o=some b:=hb
     exact(q b hb).1))).le (fun b hb=>hb.elim)
    obtain⟨wa,wc,hww⟩:=ns.len
    rw[hww]at ff
    have hfm:((l.take (j+1)).flatMap fun v=>kJ R2 (cB 3 v))=((l.take j).flatMap fun v=>kJ R2 (cB 3 v))++kJ R2 (cB 3 v):=by
     rw[List.take_add_one,hx,List.flatMap_append];simp
    simp -implicitDefEqProofs [t2,t4,t9,t11,hww,bG,ff,fa9,wj]
    exact⟨l.length-(j+1),by omega,j+1,by omega,rfl,by simp,k9,o',by rw[hfm];exact g9⟩
   ·have eD: ¬ (j:Int)<(l.length:Int):=by omega
    have uA:j=l.length:=by omega
    rw[uA,List.take_length]at gr
    simp -implicitDefEqProofs [t2,t4,t9,t11,hjl,eD,x0,x2,cK,iq,iY]
    have kk:H.le (H7.set (H.next+2) (.cells (dm R2 U1) false)):=(k6.trans k7).set (by omega) _
    have hall: ∀v,kJ R2 (cB 3 v)=kJ R (cB 3 v):=fun v=>by rw[hR2,ve];rfl
    have s7:eP (fun b=>D b∧b<H.next∨H.next+3≤b∧b<H1.next) H7 4 (.slice p.1 P1.L.length p.2) (P1.L.map aG):=by
     have:=set0 (.cells (dm R2 U1) false) ((s3.le k4).le k5)
     rw[←hH6]at this
     exact this.le k7
    have hi:=isd _ kk (by rw[YY];omega) (set2 _ s7) PF hPL
    have qbJ:({R with P:=PF}:DR)=R2:=qco
    rw[qbJ]at hi
    simp only[qbJ]at hK
    refine hK U1 _ _ kk hi ?_
    have hn:=gr.nts.ns
    simp only[hall]at hn
    refine(hn.fr ((Fr.refl (fun b=>b=H.next+2) H7).set (.inl rfl) _) (fun b hb hn=> ?_)).weak fun b hb=> ?_
    ·have hn:b=H.next+2:=hn
     have hb:H6.next≤b∧b<H7.next:=hb
     omega
    ·have hb:H6.next≤b∧b<H7.next:=hb
     show H.next≤b∧b<H7.next
     omega
end
end
end
def FT (L:List ay)(s:Int):Option ay:=if jQ L s=[]then none else some (yM (jQ L s))
structure RP (p:DP)(q:bC):Prop where
 n:p.n=q.n
 me:p.me=q.me
 fr:p.fr=q.fr
 next:p.next=q.next
 ba:p.ba=q.ba
 bn:p.bn=q.bn
 filled:p.filled=q.filled
 who:p.who=q.who
 asks:p.asks=decide (q.does=1)
 leads:p.leads=decide (q.does=2)
 best: ∀s,q.best s=FT p.L s
 wn: ∀i,p.who i=true→(i:Int)<p.n
theorem Vd (l:List ay)(v:ay):yM (l++[v])=if l=[]∨0<Nu v (yM l)then v else yM l:=by
 cases l with
 |nil=>simp[yM,qy]
 |cons x l=>
  simp only[List.cons_append,yM,List.cons_ne_nil,false_or]
  rw[xx]
  rfl
theorem RP.new (n me:Int):RP (DP.new n me) (bC.new n me):=⟨rfl,rfl,rfl,rfl,rfl,rfl,rfl,rfl,rfl,rfl,fun s=>rfl,fun i h=>by cases h⟩
theorem RP.count {p:DP}{q:bC}(h:RP p q)(v:ay):RP (p.count v) (q.count v):=by
 have ht:p.takes v=q.takes v:=by unfold DP.takes bC.takes;rw[h.fr]
 unfold DP.count bC.count
 rw[ht,h.next]
 cases hq:q.takes v with
 |false=>simpa using h
 |true=>
  simp only[if_true]
  have hb: ∀s,FT (p.L++[v]) s=if v.slot=s then (if better (q.best s) v=true then some v else q.best s)else q.best s:=by
   intro s
   rw[h.best s]
   unfold FT
   rw[IE]
   by_cases hs:v.slot=s
   ·rw[if_pos hs,if_pos hs,if_neg (by simp),Vd]
    by_cases hz:jQ p.L s=[]
    ·rw[if_pos (.inl hz),hz];simp[better]
    ·by_cases hc:0<Nu v (yM (jQ p.L s))
     ·rw[if_pos (.inr hc),if_neg hz,if_pos (by unfold better;exact decide_eq_true hc)]
     ·rw[if_neg (by simp[hz,hc]),if_neg hz,if_neg (by unfold better;simpa[Nu]using hc)]
   ·rw[if_neg hs,if_neg hs,List.append_nil]
  by_cases hbt:better (q.best v.slot) v=true
  ·rw[if_pos hbt]
   refine⟨h.n,h.me,h.fr,rfl,h.ba,h.bn,h.filled,h.who,h.asks,h.leads,fun s=> ?_,h.wn⟩
   show(if v.slot=s then some v else q.best s)=FT (p.L++[v]) s
   rw[hb s]
   by_cases hs:v.slot=s
   ·subst hs;rw[if_pos rfl,if_pos rfl,if_pos hbt]
   ·rw[if_neg hs,if_neg hs]
  ·rw[if_neg hbt]
   refine⟨h.n,h.me,h.fr,rfl,h.ba,h.bn,h.filled,h.who,h.asks,h.leads,fun s=> ?_,h.wn⟩
   show q.best s=FT (p.L++[v]) s
   rw[hb s]
   by_cases hs:v.slot=s
   ·subst hs;rw[if_pos rfl,if_neg hbt]
   ·rw[if_neg hs]
theorem RP.counts {p:DP}{q:bC}(h:RP p q): ∀l:List ay,RP (l.foldl DP.count p) (l.foldl bC.count q)
 |[]=>h
 |v::l=>(h.count v).counts l
theorem NI {w:Nat→Bool}{N:Nat}: ∀k,N≤k→(∀i,w i=true→i<N)→pV w k=pV w N
 |0,h,_=>by have:N=0:=by omega
            rw[this]
 |k+1,h,hw=>by
  by_cases hk:N=k+1
  ·rw[hk]
  ·have:=NI k (by omega) hw
   have hz:w k=false:=by
    cases hz:w k with
    |false=>rfl
    |true=>have:=hw k hz;omega
   simp only[pV,hz,this];simp
theorem RP.step {p:DP}{q:bC}(h:RP p q)(a n:Int):RP (p.step a n).1 (q.step a n).1:=by
 unfold DP.step bC.step
 rw[h.ba,h.bn]
 by_cases hc:bJ a n=false∨lX a n q.ba q.bn≤0
 ·rw[if_pos hc,if_pos hc];exact h
 ·rw[if_neg hc,if_neg hc]
  exact⟨h.n,h.me,h.fr,h.next,rfl,rfl,h.filled,h.who,rfl,rfl,h.best,h.wn⟩
theorem RP.ax {p:DP}{q:bC}(h:RP p q)(s:ByteArray):RP (p.ax s).1 (q.ax s).1∧(p.ax s).2.2=(q.ax s).2:=by
 have hl:p.leads=false↔q.does≠2:=by rw[h.leads];simp
 unfold DP.ax bC.ax
 rw[h.next]
 by_cases h1:4096<s.size
 ·rw[if_pos h1,if_pos h1];exact⟨h,rfl⟩
 ·by_cases h2:1024≤q.next
  ·rw[if_neg h1,if_neg h1,if_pos h2,if_pos h2];exact⟨h,rfl⟩
  ·by_cases h3:q.does≠2
   ·rw[if_neg h1,if_neg h1,if_neg h2,if_neg h2,if_pos h3,if_pos (hl.2 h3)];exact⟨h,rfl⟩
   ·rw[if_neg h1,if_neg h1,if_neg h2,if_neg h2,if_neg h3,if_neg (fun z=>h3 (hl.1 z))]
    exact⟨⟨h.n,h.me,h.fr,rfl,h.ba,h.bn,h.filled,h.who,h.asks,h.leads,h.best,h.wn⟩,rfl⟩
theorem RP.lead {p:DP}{q:bC}(h:RP p q)(a n fr:Int):RP (p.lead a n fr).1 (q.lead a n fr).1∧(p.lead a n fr).2=(q.lead a n fr).2:=by
 unfold DP.lead bC.lead
 rw[h.ba,h.bn,h.me,h.n]
 by_cases h1:bJ a n=false∨fr<0∨1024≤fr
 ·rw[if_pos h1,if_pos h1];exact⟨h,rfl⟩
 ·rw[if_neg h1,if_neg h1]
  by_cases h2:2147483647≤(tq [(a,n),(q.ba,q.bn)]).1
  ·rw[if_pos h2,if_pos h2];exact⟨h,rfl⟩
  ·rw[if_neg h2,if_neg h2]
   exact⟨⟨rfl,rfl,rfl,rfl,rfl,rfl,rfl,rfl,rfl,rfl,fun s=>rfl,fun i h=>by cases h⟩,rfl⟩
theorem RP.promise {p:DP}{q:bC}(h:RP p q)(hn:0≤q.n∧q.n≤7)(fr a n:Int)(l:List ay):RP (p.promise fr a n l).1 (q.promise fr a n l).1∧(p.promise fr a n l).2=(q.promise fr a n l).2:=by
 have hc:(fr<0∨p.n≤fr∨p.asks=false∨¬ (a=p.ba∧n=p.bn)∨p.who fr.toNat=true)↔(q.does≠1∨fr<0∨q.n≤fr∨¬ (a=q.ba∧n=q.bn)∨q.who fr.toNat=true):=by
  have h1:p.asks=false↔q.does≠1:=by rw[h.asks];simp
  rw[h.n,h.ba,h.bn,h.who,h1]
  constructor
  ·rintro(z|z|z|z|z)
   ·exact .inr (.inl z)
   ·exact .inr (.inr (.inl z))
   ·exact .inl z
   ·exact .inr (.inr (.inr (.inl z)))
   ·exact .inr (.inr (.inr (.inr z)))
  ·rintro(z|z|z|z|z)
   ·exact .inr (.inr (.inl z))
   ·exact .inl z
   ·exact .inr (.inl z)
   ·exact .inr (.inr (.inr (.inl z)))
   ·exact .inr (.inr (.inr (.inr z)))
 unfold DP.promise bC.promise
 by_cases hz:q.does≠1∨fr<0∨q.n≤fr∨¬ (a=q.ba∧n=q.bn)∨q.who fr.toNat=true
 ·rw[if_pos hz,if_pos (hc.2 hz)];exact⟨h,rfl⟩
 ·rw[if_neg hz,if_neg (fun z=>hz (hc.1 z))]
  have hfr:0≤fr∧fr<q.n:=by
   constructor
   ·by_cases z:fr<0
    ·exact absurd (.inr (.inl z)) hz
    ·omega
   ·by_cases z:q.n≤fr
    ·exact absurd (.inr (.inr (.inl z))) hz
    ·omega
  have hw: ∀i,setW p.who fr.toNat i=true→(i:Int)<p.n:=by
   intro i hi
   unfold setW at hi
   split at hi
   ·rename_i e;rw[e,h.n];omega
   ·exact h.wn i hi
  have h0:RP {p with who:=setW p.who fr.toNat} (q.lZ fr.toNat):=⟨h.n,h.me,h.fr,h.next,h.ba,h.bn,h.filled,by show setW p.who _=setW q.who _;rw[h.who],h.asks,h.leads,h.best,hw⟩
  obtain⟨p0,hp0⟩: ∃p0:DP,p0={p with who:=setW p.who fr.toNat}:=⟨_,rfl⟩
  rw[←hp0]at h0
  have hr:=h0.counts l
  have hcw:pV (setW q.who fr.toNat) 7=pV (setW p.who fr.toNat) p.n.toNat:=by
   rw[←h.who]
   exact NI 7 (by rw[h.n];omega) (fun i hi=>by have:=hw i hi;omega)
  rw[hcw,←hp0,h.n]
  by_cases hq:(pV (setW p.who fr.toNat) q.n.toNat:Int)<aO q.n
  ·rw[if_pos hq,if_pos hq];exact⟨hr,rfl⟩
  ·rw[if_neg hq,if_neg hq]
   exact⟨⟨hr.n,hr.me,hr.fr,hr.next,hr.ba,hr.bn,hr.filled,hr.who,rfl,rfl,hr.best,hr.wn⟩,rfl⟩
theorem TS: ∀(l:List ay) (m:Int),m≤l.foldl (fun m v=>if v.slot>m then v.slot else m) m∧(∀v ∈ l,v.slot≤l.foldl (fun m v=>if v.slot>m then v.slot else m) m) ∧
 (l.foldl (fun m v=>if v.slot>m then v.slot else m) m=m∨∃v ∈ l,v.slot=l.foldl (fun m v=>if v.slot>m then v.slot else m) m)
 |[],m=>⟨Int.le_refl _,by simp,.inl rfl⟩
 |x::l,m=>by
  obtain⟨h1,h2,h3⟩:=TS l (if x.slot>m then x.slot else m)
  simp only[List.foldl_cons]
  have hm:m≤(if x.slot>m then x.slot else m)∧x.slot≤(if x.slot>m then x.slot else m):=by split <;> omega
  refine⟨by omega,fun v hv=> ?_,?_⟩
  ·rcases List.mem_cons.1 hv with rfl|hv
   ·omega
   ·exact h2 v hv
  ·rcases h3 with h3|⟨v,hv,h3⟩
   ·by_cases hx:x.slot>m
    ·right;exact⟨x,by simp,by rw[h3,if_pos hx]⟩
    ·left;rw[h3,if_neg hx]
   ·right;exact⟨v,by simp[hv],h3⟩
theorem Mc {L:List ay}{s:Int}:(∃v ∈ L,v.slot=s)↔FT L s≠none:=by
 unfold FT
 constructor
 ·rintro⟨v,hv,hs⟩
  rw[if_neg]
  ·simp
  ·intro hz
   have:v ∈ jQ L s:=by unfold jQ;rw[List.mem_filter];exact⟨hv,by simpa using hs⟩
   rw[hz]at this;cases this
 ·intro h
  by_cases hz:jQ L s=[]
  ·rw[if_pos hz]at h;exact absurd rfl h
  ·obtain⟨v,hv⟩:=List.exists_mem_of_ne_nil _ hz
   unfold jQ at hv
   rw[List.mem_filter]at hv
   exact⟨v,hv.1,by simpa using hv.2⟩
theorem RP.qcp {p:DP}{q:bC}(h:RP p q)(ho:q.ok):zX p+1=LF q:=by
 refine LA.uniq ?_ (TH ho)
 obtain⟨h1,h2,h3⟩:=TS p.L (p.fr-1)
 have e:zX p=p.L.foldl (fun m v=>if v.slot>m then v.slot else m) (p.fr-1):=rfl
 rw[←e]at h1 h2 h3
 refine⟨by rw[←h.fr];omega,fun s v hs=> ?_,?_⟩
 ·rw[h.best s]at hs
  obtain⟨w,hw,hws⟩:=Mc.2 (by rw[hs];simp)
  have:=h2 w hw
  omega
 ·rcases h3 with h3|⟨w,hw,h3⟩
  ·left;rw[←h.fr];omega
  ·right
   have:=Mc.1 ⟨w,hw,h3⟩
   have e1:zX p+1-1=zX p:=by omega
   rw[e1,h.best]
   cases hb:FT p.L (zX p)with
   |none=>exact absurd hb this
   |some v=>exact⟨v,rfl⟩
theorem RP.NJ {p:DP}{q:bC}(h:RP p q): ∀(k:Nat) (s:Int),vX p s k=mK q s k
 |0,_=>rfl
 |k+1,s=>by
  simp only[vX,mK]
  rw[h.NJ k (s+1),h.ba,h.bn,h.best s]
  congr 2
  unfold FT
  by_cases hz:jQ p.L s=[]
  ·rw[if_pos hz,hz];rfl
  ·rw[if_neg hz];rfl
theorem RP.fill {p:DP}{q:bC}(h:RP p q)(ho:q.ok)(h2:q.does=2):p.fill=if q.filled=true then (p,[])else ({p with filled:=true},q.fill (LF q)):=by
 have hl:p.leads=true:=by rw[h.leads,h2];rfl
 unfold DP.fill bC.fill
 rw[h.filled,hl]
 by_cases hf:q.filled=true
 ·rw[if_pos (.inr hf),if_pos hf]
 ·rw[if_neg (by simp[hf]),if_neg hf,h.NJ,h.qcp ho,h.fr]
theorem RP.gG {p:DP}{q:bC}(h:RP p q):RP {p with filled:=true} (q.gG true):=⟨h.n,h.me,h.fr,h.next,h.ba,h.bn,rfl,h.who,h.asks,h.leads,h.best,h.wn⟩
def oW (l:List (Int×ay)):Int×Int→Option ay:=fun k=>(l.find? (fZ k.2 k.1)).map (·.2)
def ZB (l:List (Int×ay)):Prop:=l.Pairwise fun x y=> ¬ (x.1=y.1∧x.2.slot=y.2.slot)
theorem Ky {m1 m2:Int×Int→Option ay}{v:ay}: ∀N:Nat,(∀i:Nat,i<N→m1 (v.slot,(i:Int))=m2 (v.slot,(i:Int)))→cnt m1 v N=cnt m2 v N
 |0,_=>rfl
 |N+1,h=>by simp only[cnt];rw[Ky N fun i hi=>h i (by omega),h N (by omega)]
theorem TT {m1 m2:Int×Int→Option ay}{v w:ay}{a:Nat}: ∀N:Nat,a<N→(∀i:Nat,i<N→i≠a→m1 (v.slot,(i:Int))=m2 (v.slot,(i:Int)))→m2 (v.slot,(a:Int))=none→m1 (v.slot,(a:Int))=some w →
 cnt m1 v N=cnt m2 v N+if w=v then 1 else 0
 |0,ha,_,_,_=>by omega
 |N+1,ha,h,h1,h2=>by
  simp only[cnt]
  by_cases hN:a=N
  ·subst hN
   rw[Ky a fun i hi=>h i (by omega) (by omega),h1,h2]
   simp
  ·rw[TT N (by omega) (fun i hi=>h i (by omega)) h1 h2,h N (by omega) (fun e=>hN e.symm)]
   omega
theorem Rb (v:ay)(N:Nat): ∀l:List (Int×ay),ZB l→(∀x ∈ l,0≤x.1∧x.1<N)→cnt (oW l) v N=Cu l v
 |[],_,_=>by
  have: ∀k,cnt (oW []) v k=0:=by
   intro k
   induction k with
   |zero=>rfl
   |succ k ih=>simp only[cnt,ih];simp[oW]
  rw[this];rfl
 |x::t,hu,hf=>by
  have hu':=List.pairwise_cons.1 hu
  have ih:=Rb v N t hu'.2 (fun y hy=>hf y (by simp[hy]))
  have hx:=hf x (by simp)
  have hc:Cu (x::t) v=Cu t v+if x.2=v then 1 else 0:=by
   unfold Cu
   rw[List.countP_cons]
   by_cases h:x.2=v <;> simp[h]
  rw[hc,←ih]
  by_cases hs:x.2.slot=v.slot
  ·have hnone:oW t (v.slot,x.1)=none:=by
    unfold oW
    rw[List.find?_eq_none.2]
    ·rfl
    ·intro y hy hsm
     unfold fZ at hsm
     simp only[Bool.and_eq_true,decide_eq_true_eq]at hsm
     exact hu'.1 y hy ⟨hsm.1.symm,by rw[hsm.2];exact hs⟩
   obtain⟨a,ha⟩: ∃a:Nat,x.1=a:=⟨x.1.toNat,by omega⟩
   refine TT (a:=a) N (by omega) (fun i _ hi=> ?_) (by rw[←ha];exact hnone) ?_
   ·unfold oW
    rw[List.find?_cons_of_neg]
    unfold fZ
    simp;intro e;omega
   ·unfold oW
    rw[List.find?_cons_of_pos]
    ·rfl
    ·unfold fZ;simp[ha,hs]
  ·have hne: ¬ x.2=v:=fun e=>hs (by rw[e])
   rw[if_neg hne]
   refine Ky N fun i _=> ?_
   unfold oW
   rw[List.find?_cons_of_neg]
   unfold fZ
   simp[hs]
theorem Rc {α:Type}(P Q:α→Bool): ∀l:List α,l.Pairwise (fun x y=>P x=true→P y=false)→(l.any fun x=>P x&&Q x)=(match l.find? P with
 |some x=>Q x
 |none=>false)
 |[],_=>rfl
 |x::t,h=>by
  have h':=List.pairwise_cons.1 h
  rw[List.any_cons]
  cases hp:P x with
  |true=>
   rw[List.find?_cons_of_pos hp]
   have:(t.any fun x=>P x&&Q x)=false:=by
    rw[List.any_eq_false]
    intro y hy
    rw[h'.1 y hy hp];simp
   rw[this];simp
  |false=>
   rw[List.find?_cons_of_neg (by simp[hp]),←Rc P Q t h'.2]
   simp
structure RL (p:DL)(q:Lr):Prop where
 n:p.n=q.n
 pb:p.base=0
 qb:q.base=0
 told: ∀s,kU p s=q.told s
 ai: ∀s fr,q.told s=none→q.ai (s,fr)=oW p.ai (s,fr)
 xO:ZB p.ai
 frm: ∀x ∈ p.ai,0≤x.1∧x.1<p.n
theorem RL.may {p:DL}{q:Lr}(h:RL p q)(s:Int)(v:ByteArray):Ej p s v=mQ q s v:=by
 unfold Ej mQ
 rw[h.told,h.pb,h.qb]
 cases (q.told s).isNone <;> simp
theorem SY {p:DL}(hb:p.base=0){s:Int}{v:ByteArray}(hs:0≤s)(hn:kU p s=none)(s':Int):kU {p with told:=p.told++[(s,v)]} s'=if s=s' then some v else kU p s':=by
 rw[FP,FP]
 rw[FP]at hn
 show((p.told++[(s,v)]).find? (Di p s')).map (·.2)=_
 rw[List.find?_append]
 by_cases h:s=s'
 ·subst h
  rw[if_pos rfl]
  rw[Option.map_eq_none_iff]at hn
  rw[hn]
  simp[Di,hb,hs]
 ·rw[if_neg h]
  cases hf:p.told.find? (Di p s')with
  |some x=>rfl
  |none=>simp[Di,h]
theorem RL.tell {p:DL}{q:Lr}(h:RL p q){s:Int}{v:ByteArray}(hm:mQ q s v=true):RL {p with told:=p.told++[(s,v)]} (q.tell s v):=by
 have hm':=hm
 unfold mQ at hm'
 simp only[Bool.and_eq_true,decide_eq_true_eq,Option.isNone_iff_eq_none]at hm'
 obtain⟨m1,m2,m3,m4⟩:=hm'
 have hn:kU p s=none:=by rw[h.told];exact m4
 refine⟨h.n,h.pb,h.qb,fun s'=> ?_,fun s' fr hs'=> ?_,h.xO,h.frm⟩
 ·rw[SY h.pb (by rw[h.qb]at m1;exact m1) hn,h.told];rfl
 ·have ZC:(if s=s' then some v else q.told s')=none:=hs'
  by_cases e:s=s'
  ·rw[if_pos e]at ZC;cases ZC
  ·rw[if_neg e]at ZC
   show(if s'=s∧0≤fr∧fr<q.n then none else q.ai (s',fr))=oW p.ai (s',fr)
   rw[if_neg (fun z=>e z.1.symm),h.ai s' fr ZC]
theorem RL.qab {p:DL}{q:Lr}(h:RL p q)(s:Int)(v:ByteArray):RL (p.tell s v).1 (if mQ q s v=true then q.tell s v else q)∧(p.tell s v).2=mQ q s v:=by
 unfold DL.tell
 rw[h.may]
 cases hm:mQ q s v with
 |false=>rw[if_neg (by simp),if_neg (by simp)];exact⟨h,rfl⟩
 |true=>rw[if_pos rfl,if_pos rfl];exact⟨h.tell hm,rfl⟩
theorem RL.tells {p:DL}{q:Lr}(h:RL p q): ∀l:List ay,RL (mE p l) (tells q l)
 |[]=>h
 |v::l=>by
  have:=(h.qab v.slot v.val).1
  exact this.tells l
theorem RL.mG {p:DL}{q:Lr}(h:RL p q){fr:Int}{v:ay}(hf:0≤fr∧fr<p.n):RL (p.mG fr v) (q.mG fr v):=by
 refine⟨h.n,h.pb,h.qb,h.told,fun s k hs=> ?_,?_,fun x hx=> ?_⟩
 ·show(if (v.slot,fr)=(s,k)then some v else q.ai (s,k))=oW ((p.ai.filter fun x=> !fZ fr v.slot x)++[(fr,v)]) (s,k)
  unfold oW
  rw[List.find?_append]
  by_cases e:(v.slot,fr)=(s,k)
  ·rw[if_pos e]
   injection e with e1 e2
   subst e1 e2
   rw[List.find?_eq_none.2 (fun x hx=>by
    rw[List.mem_filter]at hx
    simpa using hx.2)]
   simp[fZ]
  ·rw[if_neg e,h.ai s k hs]
   have hz:[(fr,v)].find? (fZ k s)=none:=by
    rw[List.find?_eq_none]
    intro x hx
    simp only[List.mem_singleton]at hx
    subst hx
    unfold fZ
    simp only[Bool.and_eq_true,decide_eq_true_eq]
    rintro⟨e1,e2⟩
    exact e (by rw[e1,e2])
   rw[hz,Option.or_none]
   unfold oW
   congr 1
   rw[List.find?_filter]
   congr 1
   funext x
   cases hx:fZ k s x with
   |false=>simp
   |true=>
    have hne:fZ fr v.slot x=false:=by
     cases z:fZ fr v.slot x with
     |false=>rfl
     |true=>
      unfold fZ at z hx
      simp only[Bool.and_eq_true,decide_eq_true_eq]at z hx
      exact absurd (by rw[←z.2,←z.1,hx.1,hx.2]) e
    simp[hne]
 ·show ZB ((p.ai.filter fun x=> !fZ fr v.slot x)++[(fr,v)])
  unfold ZB
  rw[List.pairwise_append]
  refine⟨h.xO.sublist List.filter_sublist,by simp,fun x hx y hy=> ?_⟩
  simp only[List.mem_singleton]at hy
  subst hy
  rw[List.mem_filter]at hx
  rintro⟨e1,e2⟩
  have:=hx.2
  unfold fZ at this
  simp[e1,e2]at this
 ·rcases List.mem_append.1 hx with hx|hx
  ·exact h.frm x ((List.mem_filter.1 hx).1)
  ·simp only[List.mem_singleton]at hx
   subst hx
   exact hf
theorem RL.fresh {p:DL}{q:Lr}(h:RL p q)(fr:Int)(v:ay):l5 q fr v=false↔((fr<0∨p.n≤fr∨bJ v.a v.n=false∨Ej p v.slot v.val=false)∨uO p fr v=true):=by
 have hst:mQ q v.slot v.val=true→uO p fr v=(match q.ai (v.slot,fr)with
  |some was=>decide (0≤lX was.a was.n v.a v.n)
  |none=>false):=by
  intro hm
  unfold mQ at hm
  simp only[Bool.and_eq_true,decide_eq_true_eq,Option.isNone_iff_eq_none]at hm
  rw[h.ai _ _ hm.2.2.2]
  unfold uO oW
  rw[Rc (fZ fr v.slot) (fun x=>decide (0≤lX x.2.a x.2.n v.a v.n)) p.ai (h.xO.imp fun {x y} hxy hx=>by
   unfold fZ at hx ⊢
   simp only[Bool.and_eq_true,decide_eq_true_eq]at hx
   rw[Bool.and_eq_false_iff,decide_eq_false_iff_not,decide_eq_false_iff_not]
   by_cases z:y.1=fr
   ·right;intro z2;exact hxy ⟨by rw[hx.1,z],by rw[hx.2,z2]⟩
   ·left;exact z)]
  cases p.ai.find? (fZ fr v.slot) <;> rfl
 rw[h.may,h.n]
 unfold l5
 cases hm:mQ q v.slot v.val with
 |false=>simp
 |true=>
  rw[hst hm]
  by_cases h1:0≤fr
  ·by_cases h2:fr<q.n
   ·cases hv:bJ v.a v.n with
    |false=>simp
    |true=>
     cases hq:q.ai (v.slot,fr)with
     |none=>simp[h1,h2];try omega
     |some was=>
      by_cases hc:lX was.a was.n v.a v.n<0
      ·simp[h1,h2,hc];try omega
      ·simp[h1,h2,hc];try omega
   ·simp[h2];try omega
  ·simp[h1];try omega
theorem RL.hear {p:DL}{q:Lr}(h:RL p q)(fr:Int)(v:ay):RL (p.hear fr v).1 (q.hear fr v).1:=by
 have hf:=h.fresh fr v
 unfold DL.hear Lr.hear
 cases hb:l5 q fr v with
 |false=>
  have hor:=hf.1 hb
  rw[if_neg (show ¬ (false=true)by simp)]
  by_cases h1:fr<0∨p.n≤fr∨bJ v.a v.n=false∨Ej p v.slot v.val=false
  ·rw[if_pos h1];exact h
  ·rw[if_neg h1,if_pos (hor.resolve_left h1)];exact h
 |true=>
  have hno: ¬ ((fr<0∨p.n≤fr∨bJ v.a v.n=false∨Ej p v.slot v.val=false)∨uO p fr v=true):=fun z=>by rw[hf.2 z]at hb;cases hb
  have h1: ¬ (fr<0∨p.n≤fr∨bJ v.a v.n=false∨Ej p v.slot v.val=false):=fun z=>hno (.inl z)
  have h2: ¬ uO p fr v=true:=fun z=>hno (.inr z)
  rw[if_pos rfl,if_neg h1,if_neg h2]
  have hfr:0≤fr∧fr<p.n:=by
   constructor
   ·by_cases z:fr<0
    ·exact absurd (.inl z) h1
    ·omega
   ·by_cases z:p.n≤fr
    ·exact absurd (.inr (.inl z)) h1
    ·omega
  have hv:=h.mG (v:=v) hfr
  have hm:mQ q v.slot v.val=true:=by
   rw[←h.may]
   cases z:Ej p v.slot v.val with
   |true=>rfl
   |false=>exact absurd (.inr (.inr (.inr z))) h1
  have hm0:=hm
  unfold mQ at hm0
  simp only[Bool.and_eq_true,decide_eq_true_eq,Option.isNone_iff_eq_none]at hm0
  have hcnt:cnt (q.mG fr v).ai v q.n.toNat=Cu (p.mG fr v).ai v:=by
   rw[←Rb v q.n.toNat _ hv.xO (fun x hx=>by have:=hv.frm x hx;have e:(p.mG fr v).n=q.n:=hv.n;omega)]
   exact Ky _ fun i _=>hv.ai v.slot i hm0.2.2.2
  rw[hcnt,h.n]
  by_cases hq:(Cu (p.mG fr v).ai v:Int)<aO q.n
  ·rw[if_pos hq,if_pos hq];exact hv
  ·rw[if_neg hq,if_neg hq]
   have ht:=(hv.qab v.slot v.val).1
   have hm2:mQ (q.mG fr v) v.slot v.val=true:=hm
   rw[if_pos hm2]at ht
   exact ht
section
attribute [local simp] J0 J1 J2 J3 J4 J5 J6 J7 J8 J9 Ja Jb Jc Jd Je Jf Jg Jh Ji Jj Jk Jl Jm Jn Jo Jp Jq Jr Js Jt Ju Jv Jw Jx Jy Jz JA JB JC JD JE JF JG JH JI JJ JK JL JM JN JO JP JQ JR JS aQ bZ.kind JT JU JV JW JX JY JZ Y0 Y1 Y2 Y3 Y4 Y5 Y6 Y7 Y8 Y9 Ya Yb Yc Yd Ye Yf Yg Yh Yi Yj Yk Yl Ym Yn Yo Yp Yq jq Yr Ys Yt Yu Yv Yw Yx Yy dZ bA bE Yz YA YB YC YD YE eO YF YG YH YI YJ YK YL YM YN YO YP YQ YR YS YT YU nP bK jR nG bu putAt aa.ah aa.aP aa.aK YV YW YX YY YZ B0 B1 B2 B3 B4 B5 B6 B7 B8 B9 Ba Bb Bc Bd Be Bf Bg Bh Bi Bj Bk Bl Bm Bn Bo Bp
section
section
variable (c:Ctx) (mM:dw c) (hQ:bN c) (h16:dS c) (En:eF c) (h19:dU c) (h20:eG c) (h21:fM c) {H:aa} {K:Value→aa→Prop} {D:Nat→Prop}
include h20 h21 in
theorem Xq {R:DR}{U:RU}{x:az}{ua:Option Addr}{n uc:Nat}(h:qG D H R U)(hl:R.L.told.length≤900000)(hb:0≤R.L.base∧R.L.base≤1024)
 (hK: ∀w H',H.le H'→nK (fun b=>H.next≤b∧b<H'.next) H' w (R.tell x)→K w H'):
 c.C (c.F Ec) [.agg (dm R U).toArray,.agg (aC x (.slice ua n uc)).toArray] H K:=by
 refine c.enter h21.Hg rfl ?_
 unfold DR.tell at hK
 obtain⟨H0,hH0⟩: ∃X:aa,X=(H.alloc (.cells (dm R U) false)).alloc (.cells [.int .i64 x.kind,.int .i64 x.fr,.int .i64 x.to,.int .i64 x.slot,.int .i64 x.ba,.int .i64 x.bn,.slice ua n uc] false):=⟨_,rfl⟩
 have k0:H.le H0:=by rw[hH0];exact(H.aj _).alloc _
 have n0:H0.next=H.next+2:=by rw[hH0];rfl
 have g0:H0.get H.next=some (.cells (dm R U) false):=by rw[hH0];simp only[YV,YW,YX,YY];repeat (first|rw[if_pos trivial]|rw[if_pos (by omega)]|rw[if_neg (by omega)])
 have g1:H0.get (H.next+1)=some (.cells [.int .i64 x.kind,.int .i64 x.fr,.int .i64 x.to,.int .i64 x.slot,.int .i64 x.ba,.int .i64 x.bn,.slice ua n uc] false):=by rw[hH0];simp only[YV,YW,YX,YY];repeat (first|rw[if_pos trivial]|rw[if_pos (by omega)]|rw[if_neg (by omega)])
 by_cases c1:x.slot<R.L.base
 ·rw[if_pos c1]at hK
  simp -implicitDefEqProofs [jO,aC,←hH0,g0,g1,qbF,qbG,cK,c1]
  exact hK _ _ k0 (nK.nil _ _)
 rw[if_neg c1]at hK
 simp -implicitDefEqProofs [jO,aC,←hH0,g0,g1,qbF,qbG,cK,c1,U4]
 refine av (TQ c h20 (l:=R.L) (s:=x.slot) (h.t.1.sl.le k0) (by omega) hb fun w H1 k1 gw=> ?_)
 have n1:=k1.next
 have e0:=(k1.get H.next (by omega)).trans g0
 have e1:=(k1.get (H.next+1) (by omega)).trans g1
 have hnd:=L9 R.L hb
 obtain⟨L,hL⟩: ∃L,L=Ht R.L x.slot:=⟨_,rfl⟩
 have hLl:(L.length:Int)=(kV R.L-x.slot).toNat:=by
  rw[hL];unfold Ht;rw[List.length_map,List.length_range,if_neg c1]
 unfold OV at hK
 rw[←hL]at gw hK
 obtain⟨wa,wc,hw⟩:=gw.grow.len
 rw[List.length_map]at hw
 subst hw
 obtain⟨M,hM⟩: ∃M:Nat,M=min L.length 8:=⟨_,rfl⟩
 have hM8:M≤8∧M≤L.length:=by omega
 have htk:L.take 8=L.take M:=by
  by_cases hc:L.length≤8
  ·rw[List.take_of_length_le (by omega),List.take_of_length_le (by omega)]
  ·have:M=8:=by omega
   rw[this]
 simp -implicitDefEqProofs []
 refine aS c.mono (fun k T H'=> ∃j:Nat,j≤M∧k=M-j∧T 2 = .pointer (some ⟨H.next,0,none⟩)∧T 3 = .pointer (some ⟨H.next+1,0,none⟩)∧T 5 = .slice wa L.length wc∧T 7 = .int .i64 j∧H1.le H'∧Gr H' H1.next 4 (T 6) ((fQ x.slot 0 (L.take j)).map aG)) M ?_ ?_
 ·refine⟨0,by omega,rfl,?_⟩
  simp -implicitDefEqProofs []
  exact⟨aa.le_refl _,Gr.nil _ _ _⟩
 ·rintro k T H2 ⟨j,hj,rfl,t2,t3,t5,t7,k2,gr⟩
  have n2:=k2.next
  have f0:=(k2.get H.next (by omega)).trans e0
  have f1:=(k2.get (H.next+1) (by omega)).trans e1
  have hvl: ∀(l:List ByteArray) (i:Nat),(fQ x.slot i l).length=l.length:=by
   intro l
   induction l with
   |nil=>intro i;rfl
   |cons y l ih=>intro i;simp[fQ,ih]
  by_cases hjM:j<M
  ·have hjl:j<L.length:=by omega
   have eD:(j:Int)<(L.length:Int):=by omega
   have hj8:(j:Int)<8:=by omega
   have wj:IntKind.i64.wrap ((j:Int)+1)=(j:Int)+1:=wrap64 (by omega) (by omega)
   have ws:IntKind.i64.wrap (x.slot+(j:Int))=x.slot+(j:Int):=wrap64 (by omega) (by omega)
   obtain⟨y,hy⟩: ∃y,y=L[j]:=⟨_,rfl⟩
   have hx:L[j]? =some y:=by rw[hy];exact List.getElem?_eq_getElem hjl
   obtain⟨b,o,cc,cs,ro,ea,hbl,hget,hrow⟩:=(gw.grow.Lg.le k2).at1 (i:=j) (x:=.string y) (by simp[hx,SS])
   rw[List.length_map]at ea
   simp only[Value.slice.injEq]at ea
   obtain⟨rfl,-,rfl⟩:=ea
   have qcq:L.take (j+1)=L.take j++[y]:=by rw[List.take_add_one,hx];rfl
   have hsn:=sH x.slot y (L.take j) 0
   rw[←qcq,List.length_take,Nat.zero_add,Nat.min_eq_left (by omega)]at hsn
   obtain⟨v4,H4,e4,El,q4,-⟩:=El gr (aa.le_refl _) (by omega) (by rw[hvl,List.length_take];omega) ⟨x.slot+(j:Int),0,0,y⟩
   have f4:=MJ H2 ⟨x.slot+(j:Int),0,0,y⟩
   rw[←hsn]at El
   simp only[aG]at f4 e4
   simp -implicitDefEqProofs [t2,t3,t5,t7,hjl,eD,hj8,f1,hget,hrow,ws,bG,f4,e4,wj]
   exact⟨M-(j+1),by omega,j+1,by omega,rfl,by simp,((k2.keep (Nat.le_refl _)).trans q4).le (Nat.le_refl _),El⟩
  ·have uA:j=M:=by omega
   rw[uA,←htk]at gr
   have hcond: ¬ ((j:Int)<(L.length:Int)∧(j:Int)<8):=by omega
   obtain⟨V,hV⟩: ∃V,V=fQ x.slot 0 (L.take 8):=⟨_,rfl⟩
   rw[←hV]at gr hK
   obtain⟨va,vc,hvv⟩:=gr.grow.len
   rw[List.length_map]at hvv
   have hend: ∀(X:Prop),(¬ (j:Int)<(L.length:Int)→X)→((j:Int)<(L.length:Int)→¬ (j:Int)<8→X)→X:=fun X a b=>by
    by_cases hz:(j:Int)<(L.length:Int)
    ·exact b hz (by omega)
    ·exact a hz
   by_cases hz:V=[]
   ·rw[if_pos hz]at hK
    rw[hz]at hvv
    simp only[List.length_nil]at hvv
    refine hend _ (fun d1=> ?_) (fun d1 d2=> ?_)
    ·simp -implicitDefEqProofs [t2,t3,t5,t7,d1,hvv]
     exact hK _ _ ((k0.trans k1).trans k2) (nK.nil _ _)
    ·simp -implicitDefEqProofs [t2,t3,t5,t7,d1,d2,hvv]
     exact hK _ _ ((k0.trans k1).trans k2) (nK.nil _ _)
   ·rw[if_neg hz]at hK
    have mM: ¬ (V.length:Int)=0:=by
     intro e
     exact hz (List.length_eq_zero_iff.1 (by omega))
    have qbK: ¬ V.length=0:=by omega
    rw[hvv]at gr
    have ns:=nK.one (n:=H1.next) (x:=⟨6,R.me,x.fr,0,0,0,V⟩) (by omega) gr.grow.QD
    unfold aC at ns
    refine hend _ (fun d1=> ?_) (fun d1 d2=> ?_)
    ·simp -implicitDefEqProofs [t2,t3,t5,t7,d1,hvv,mM,qbK,hz,f0,f1,ND,NF,cK]
     exact hK _ _ (((k0.trans k1).trans k2).alloc _) (ns.weak fun b hb=>by
      have hb:H1.next≤b∧b<H2.next+1:=hb
      show H.next≤b∧b<H2.next+1
      omega)
    ·simp -implicitDefEqProofs [t2,t3,t5,t7,d1,d2,hvv,mM,qbK,hz,f0,f1,ND,NF,cK]
     exact hK _ _ (((k0.trans k1).trans k2).alloc _) (ns.weak fun b hb=>by
      have hb:H1.next≤b∧b<H2.next+1:=hb
      show H.next≤b∧b<H2.next+1
      omega)
end
end
section
structure DR.fit (R:DR):Prop where
 n7:1≤R.n∧R.n≤7
 pn:R.P.n=R.n
 ln:R.L.n=R.n
 fr:0≤R.P.fr∧R.P.fr≤1024
 nx:0≤R.P.next∧R.P.next≤1024
 sl: ∀v ∈ R.P.L,v.slot<1024
 bs:0≤R.L.base∧R.L.base≤1024
 al:R.A.L.length≤40000
 so:Sorted R.A.L
 pl:R.P.L.length≤800000
 tl:R.L.told.length≤800000
 vl:R.L.ai.length≤800000
theorem qG.qcr {D:Nat→Prop}{H:aa}{R:DR}{U:RU}(h:qG D H R U){L:DL}{t v:Option Addr×Nat}(ht:eP D H 2 (.slice t.1 L.told.length t.2) (L.told.map kT))(hv:eP D H 5 (.slice v.1 L.ai.length v.2) (L.ai.map lS)):qG D H {R with L:=L} {U with t:=t,v:=v}:=⟨h.a,h.p,ht,hv⟩
theorem Eo: ∀(l:List ay) (L:DL),(mE L l).n=L.n∧(mE L l).base=L.base∧(mE L l).ai=L.ai∧(mE L l).told.length≤L.told.length+l.length
 |[],L=>⟨rfl,rfl,rfl,Nat.le_refl _⟩
 |v::l,L=>by
  obtain⟨h1,h2,h3,h4⟩:=Eo l (L.tell v.slot v.val).1
  obtain⟨k1,k2,k3,k4⟩:=AP L v.slot v.val
  exact⟨h1.trans k1,h2.trans k2,h3.trans k3,by have:(mE L (v::l))=mE (L.tell v.slot v.val).1 l:=rfl;rw[this,List.length_cons];omega⟩
theorem S9 (L:DL)(l:List ay)(v:ay):mE L (l++[v])=((mE L l).tell v.slot v.val).1:=by unfold mE;rw[List.foldl_append];rfl
def FU (R:DR)(l:List ay):DR:={R with L:=mE R.L l}
section
variable (c:Ctx) (mM:dw c) (hQ:bN c) (h16:dS c) (En:eF c) (h19:dU c) (h20:eG c) (h21:fM c) {H:aa} {K:Value→aa→Prop} {D:Nat→Prop}
include mM hQ h16 En h19 h20 h21 in
theorem Xr {R:DR}{U:RU}{x:az}{ua:Option Addr}{uc:Nat}(h:qG D H R U)(hu:eP D H 4 (.slice ua x.ai.length uc) (x.ai.map aG))(ft:R.fit)(hl:x.ai.length≤1024)
 (hK: ∀U' w H',H.le H'→qG (Nw D H H') H' (R.take x).1 U'→nK (fun b=>H.next≤b∧b<H'.next) H' w (R.take x).2→K (.tuple #[.agg (dm (R.take x).1 U').toArray,w]) H'):
 c.C (c.F Ea) [.agg (dm R U).toArray,.agg (aC x (.slice ua x.ai.length uc)).toArray] H K:=by
 refine c.enter h21.He rfl ?_
 obtain⟨H0,hH0⟩: ∃X:aa,X=((H.alloc (.cells (dm R U) false)).alloc (.cells [.int .i64 x.kind,.int .i64 x.fr,.int .i64 x.to,.int .i64 x.slot,.int .i64 x.ba,.int .i64 x.bn,.slice ua x.ai.length uc] false)).alloc (.cells [.int .i64 0,.int .i64 0,.int .i64 0,.int .i64 0,.int .i64 0,.slice none 0 0,.int .i64 0,.int .i64 0,.int .i64 0,.int .i64 0,.int .i64 0,.int .i64 0,.bool false,.bool false,.bool false,.bool false,.bool false,.bool false,.bool false,.bool false,.bool false,.bool false,.slice none 0 0,.int .i64 0,.int .i64 0,.slice none 0 0,.slice none 0 0] false):=⟨_,rfl⟩
 have k0:H.le H0:=by rw[hH0];exact((H.aj _).alloc _).alloc _
 have n0:H0.next=H.next+3:=by rw[hH0];rfl
 have g0:H0.get H.next=some (.cells (dm R U) false):=by rw[hH0];simp only[YV,YW,YX,YY];repeat (first|rw[if_pos trivial]|rw[if_pos (by omega)]|rw[if_neg (by omega)])
 have g1:H0.get (H.next+1)=some (.cells [.int .i64 x.kind,.int .i64 x.fr,.int .i64 x.to,.int .i64 x.slot,.int .i64 x.ba,.int .i64 x.bn,.slice ua x.ai.length uc] false):=by rw[hH0];simp only[YV,YW,YX,YY];repeat (first|rw[if_pos trivial]|rw[if_pos (by omega)]|rw[if_neg (by omega)])
 have g2:H0.get (H.next+2)=some (.cells [.int .i64 0,.int .i64 0,.int .i64 0,.int .i64 0,.int .i64 0,.slice none 0 0,.int .i64 0,.int .i64 0,.int .i64 0,.int .i64 0,.int .i64 0,.int .i64 0,.bool false,.bool false,.bool false,.bool false,.bool false,.bool false,.bool false,.bool false,.bool false,.bool false,.slice none 0 0,.int .i64 0,.int .i64 0,.slice none 0 0,.slice none 0 0] false):=by rw[hH0];simp only[YV,YW,YX,YY];repeat (first|rw[if_pos trivial]|rw[if_pos (by omega)]|rw[if_neg (by omega)])
 have hd0:qG (fun b=>D b∧b<H.next) H0 R U:=h.below.le k0
 have fin: ∀(Q:aa) (R':DR) (U':RU) (w:Value) (o:fK),H.le Q→H.next+3≤Q.next→qG (fun b=>(D b∧b<H.next)∨(H.next+3≤b∧b<Q.next)) Q R' U'→nK (fun b=>H.next+3≤b∧b<Q.next) Q w (R.take x).2→R'=(R.take x).1→K (.tuple #[.agg (dm R' U').toArray,w]) (Q.set (H.next+2) o):=by
  intro Q R' U' w o kQ nQ hi hn e
  subst e
  refine hK U' w _ (kQ.set (by omega) _) ?_ ?_
  ·refine(hi.fr ((Fr.refl (fun b=>b=H.next+2) Q).set (.inl rfl) _) (fun b hb hn=> ?_)).weak fun b hb=> ?_
   ·have hn:b=H.next+2:=hn
    rcases hb with hb|hb <;> omega
   ·rcases hb with hb|hb
    ·exact .inl hb.1
    ·exact .inr ⟨by omega,hb.2⟩
  ·refine(hn.fr ((Fr.refl (fun b=>b=H.next+2) Q).set (.inl rfl) _) (fun b hb hn=> ?_)).weak fun b hb=> ?_
   ·have hn:b=H.next+2:=hn
    have hb:H.next+3≤b∧b<Q.next:=hb
    omega
   ·have hb:H.next+3≤b∧b<Q.next:=hb
    show H.next≤b∧b<Q.next
    omega
 have same:(R.take x)=(R,[])→∀o,K (.tuple #[.agg (dm R U).toArray,.slice none 0 0]) (H0.set (H.next+2) o):=fun e o=>fin H0 R U _ o k0 (by omega) (hd0.weak fun b hb=>.inl hb) (by rw[e];exact nK.nil _ _) (by rw[e])
 have ht:=ft.n7
 by_cases c1:x.to=R.me
 rotate_left
 ·simp -implicitDefEqProofs [aW,aC,←hH0,g0,g1,g2,Pd,Pe,ND,NF,cK,iq,iY,c1]
  exact same (by unfold DR.take;rw[if_pos (.inl c1)]) _
 by_cases c2:x.fr<0
 ·simp -implicitDefEqProofs [aW,aC,←hH0,g0,g1,g2,Pd,Pe,ND,NF,cK,iq,iY,eq_true c1,c2]
  exact same (by unfold DR.take;rw[if_pos (.inr (.inl c2))]) _
 by_cases c3:R.n≤x.fr
 ·simp -implicitDefEqProofs [aW,aC,←hH0,g0,g1,g2,Pd,Pe,ND,NF,cK,iq,iY,eq_true c1,c2,c3]
  exact same (by unfold DR.take;rw[if_pos (.inr (.inr c3))]) _
 have htk:R.take x=if x.kind=1 then R.bQ x else if x.kind=2 then R.promise x
  else if x.kind=5 then (R,R.tell x)
  else if x.kind=6 then ({R with L:=mE R.L x.ai},[])
  else if x.kind=3∧x.ai.length=1 then ({R.step (gF x.ai).a (gF x.ai).n with A:=(R.A.accept (gF x.ai)).1},if (R.A.accept (gF x.ai)).2=true then kJ R (cB 4 (gF x.ai))else [])
  else if x.kind=4∧x.ai.length=1 then ({R with L:=(R.L.hear x.fr (gF x.ai)).1},[])
  else (R,[]):=by unfold DR.take;rw[if_neg (by omega)]
 by_cases d1:x.kind=1
 ·rw[if_pos d1]at htk
  simp -implicitDefEqProofs [aW,aC,←hH0,g0,g1,g2,Pd,Pe,ND,NF,cK,iq,iY,eq_true c1,c2,c3,eq_true d1]
  refine av (Q9 c mM En h19 h21 (x:=x) hd0 (by have:=ft.al;omega) fun w H1 k1 i1 s1=> ?_)
  have n1:=k1.next
  have e2:=(k1.get (H.next+2) (by omega)).trans g2
  rw[←htk]at i1 s1 ⊢
  simp -implicitDefEqProofs [e2,cK,iY]
  exact fin H1 _ U w _ (k0.trans k1) (by omega) (i1.weak fun b hb=>.inl hb) (s1.weak fun b hb=>by
   have hb:H0.next≤b∧b<H1.next:=hb
   show H.next+3≤b∧b<H1.next
   omega) rfl
 rw[if_neg d1]at htk
 by_cases d2:x.kind=2
 ·rw[if_pos d2]at htk
  simp -implicitDefEqProofs [aW,aC,←hH0,g0,g1,g2,Pd,Pe,ND,NF,cK,iq,iY,eq_true c1,c2,c3,d1,eq_true d2]
  refine av (Ra c mM hQ h16 h19 h21 (x:=x) hd0 (hu.1.sl.le k0) ft.n7 (by rw[ft.pn];exact ft.n7) ft.fr (by omega) ft.pl ft.nx ft.sl fun U' w H1 k1 i1 s1=> ?_)
  have n1:=k1.next
  have e2:=(k1.get (H.next+2) (by omega)).trans g2
  rw[←htk]at i1 s1 ⊢
  simp -implicitDefEqProofs [e2,cK,iY]
  exact fin H1 _ U' w _ (k0.trans k1) (by omega) (i1.weak fun b hb=>by
   rcases hb with hb|hb
   ·exact .inl hb
   ·exact .inr ⟨by omega,hb.2⟩) (s1.weak fun b hb=>by
   have hb:H0.next≤b∧b<H1.next:=hb
   show H.next+3≤b∧b<H1.next
   omega) rfl
 rw[if_neg d2]at htk
 by_cases d5:x.kind=5
 ·rw[if_pos d5]at htk
  simp -implicitDefEqProofs [aW,aC,←hH0,g0,g1,g2,Pd,Pe,ND,NF,cK,iq,iY,eq_true c1,c2,c3,d1,d2,eq_true d5]
  refine aI c.mono (Xq c h20 h21 (x:=x) hd0 (by have:=ft.tl;omega) ft.bs fun w H1 k1 s1=> ?_)
  have n1:=k1.next
  have e0:=(k1.get H.next (by omega)).trans g0
  have e2:=(k1.get (H.next+2) (by omega)).trans g2
  simp -implicitDefEqProofs [e0,e2,cK,iq,iY]
  exact fin H1 R U w _ (k0.trans k1) (by omega) ((hd0.le k1).weak fun b hb=>.inl hb) (by
   rw[htk]
   exact s1.weak fun b hb=>by
    have hb:H0.next≤b∧b<H1.next:=hb
    show H.next+3≤b∧b<H1.next
    omega) (by rw[htk])
 rw[if_neg d5]at htk
 by_cases d6:x.kind=6
 ·rw[if_pos d6]at htk
  have tl:=ft.tl
  simp -implicitDefEqProofs [aW,aC,←hH0,g0,g1,g2,Pd,Pe,ND,NF,cK,iq,iY,eq_true c1,c2,c3,d1,d2,d5,eq_true d6]
  refine aS c.mono (fun k T H'=> ∃(j:Nat) (t:Option Addr×Nat),j≤x.ai.length∧k=x.ai.length-j∧T 2 = .pointer (some ⟨H.next,0,none⟩)∧T 3 = .pointer (some ⟨H.next+1,0,none⟩)∧T 4 = .pointer (some ⟨H.next+2,0,none⟩)∧T 7 = .int .i64 j∧H.le H'∧H.next+3≤H'.next ∧
   H'.get H.next=some (.cells (dm (FU R (x.ai.take j)) {U with t:=t}) false)∧H'.get (H.next+1)=H0.get (H.next+1)∧H'.get (H.next+2)=H0.get (H.next+2) ∧
   eP (fun b=>(D b∧b<H.next)∨(H.next+3≤b∧b<H'.next)) H' 2 (.slice t.1 (FU R (x.ai.take j)).L.told.length t.2) ((FU R (x.ai.take j)).L.told.map kT)) x.ai.length ?_ ?_
  ·refine⟨0,U.t,by omega,rfl,?_⟩
   simp -implicitDefEqProofs []
   exact⟨k0,by omega,g0,hd0.t.weak fun b hb=>.inl hb⟩
  ·rintro k T H1 ⟨j,t,hj,rfl,t2,t3,t4,t7,k1,n1,e0,e1,e2,sw⟩
   rw[g1]at e1
   rw[g2]at e2
   obtain⟨q1,q2,q3,q4⟩:=Eo (x.ai.take j) R.L
   obtain⟨Rj,hRj⟩: ∃Rj,Rj=FU R (x.ai.take j):=⟨_,rfl⟩
   have hLj:Rj.L=mE R.L (x.ai.take j):=by rw[hRj];rfl
   rw[←hLj]at q1 q2 q3 q4
   rw[List.length_take]at q4
   rw[←hRj]at e0 sw
   obtain⟨Uj,hUj⟩: ∃Uj:RU,Uj={U with t:=t}:=⟨_,rfl⟩
   rw[←hUj]at e0
   have hUt:Uj.t=t:=by rw[hUj]
   have hUv:Uj.v=U.v:=by rw[hUj]
   have wj:IntKind.i64.wrap ((j:Int)+1)=(j:Int)+1:=wrap64 (by omega) (by omega)
   by_cases hjl:j<x.ai.length
   ·have eD:(j:Int)<(x.ai.length:Int):=by omega
    obtain⟨v,hv⟩: ∃v,v=x.ai[j]:=⟨_,rfl⟩
    have hx:x.ai[j]? =some v:=by rw[hv];exact List.getElem?_eq_getElem hjl
    obtain⟨b,o,cc,cs,ro,ea,hbl,hget,hrl,hrow,hbd⟩:=(hu.1.sl.le k1).at (i:=j) (r:=aG v) (by simp[hx])
    rw[List.length_map]at ea
    simp only[Value.slice.injEq]at ea
    obtain⟨rfl,-,rfl⟩:=ea
    have r0:=uh hrow 0 (by omega)
    have r3:=uh hrow 3 (by omega)
    simp only[aG,List.getElem?_cons_zero,List.getElem?_cons_succ,Nat.add_zero]at r0 r3
    obtain⟨H2,hH2⟩: ∃X:aa,X=H1.alloc (.cells [.int .i64 0,.int .i64 0,.slice none 0 0,.slice none 0 0] false):=⟨_,rfl⟩
    have k2:H1.le H2:=by rw[hH2];exact H1.aj _
    have n2:H2.next=H1.next+1:=by rw[hH2];rfl
    have a2:H2.get H1.next=some (.cells [.int .i64 0,.int .i64 0,.slice none 0 0,.slice none 0 0] false):=by rw[hH2,YV,if_pos rfl]
    simp -implicitDefEqProofs [t2,t3,t4,t7,e0,e1,hjl,eD,U4,cK,hUt,hUv,hget,r0,r3,←hH2]
    refine aI c.mono (Q5 c h20 (l:=Rj.L) (va:=U.v.1) (vn:=Rj.L.ai.length) (vc:=U.v.2) (s:=v.slot) (t:=v.val) (sw.le k2) (by omega) fun u' H3 k3 s3=> ?_)
    obtain⟨t',rfl⟩:=s3.cut
    obtain⟨z0,z1,z2,-⟩:=AP Rj.L v.slot v.val
    obtain⟨L3,hL3⟩: ∃L3,L3=(Rj.L.tell v.slot v.val).1:=⟨_,rfl⟩
    rw[←hL3]at s3 z2 ⊢
    unfold Gv
    have n3:=k3.next
    have f0:=((k2.trans k3).get H.next (by omega)).trans e0
    have f1:=((k2.trans k3).get (H.next+1) (by omega)).trans e1
    have f2:=((k2.trans k3).get (H.next+2) (by omega)).trans e2
    have a3:=(k3.get H1.next (by omega)).trans a2
    have rs:=qaV (R:=Rj) (U:=Uj) (l:=L3) (t:=t') (v:=U.v)
    rw[z2]at rs
    have hR3:({Rj with L:=L3}:DR)=FU R (x.ai.take (j+1)):=by
     have:x.ai.take (j+1)=x.ai.take j++[v]:=by rw[List.take_add_one,hx];rfl
     rw[this]
     unfold FU
     rw[S9,hL3,hRj]
     rfl
    have hU3:({Uj with t:=t',v:=U.v}:RU)={U with t:=t'}:=by rw[hUj]
    rw[hR3,hU3]at rs
    have hL3':(FU R (x.ai.take (j+1))).L=L3:=by rw[←hR3]
    have ne1: ¬ H.next=H1.next:=by omega
    have U7: ¬ H1.next=H.next:=by omega
    have XM: ¬ H.next+1=H1.next:=by omega
    have ne6: ¬ H.next+2=H1.next:=by omega
    have d27:List.drop 27 (dm Rj Uj)=[]:=rfl
    have kQ: ∀o1 o2,H.le ((H3.set H1.next o1).set H.next o2):=fun o1 o2=>((((k1.trans k2).trans k3).set (by omega) _).set (Nat.le_refl _) _)
    have two: ∀(o1 o2:fK),eP (fun b=>D b∧b<H.next∨H.next+3≤b∧b<H3.next) ((H3.set H1.next o1).set H.next o2) 2 (.slice t'.1 (FU R (x.ai.take (j+1))).L.told.length t'.2) ((FU R (x.ai.take (j+1))).L.told.map kT):=by
     intro o1 o2
     rw[hL3']
     refine(s3.fr (((Fr.refl (fun b=>b=H1.next∨b=H.next) H3).set (.inl (.inl rfl)) o1).set (.inl (.inr rfl)) o2) (fun b hb hn=> ?_)).weak fun b hb=> ?_
     ·rcases hn with hn|hn <;> rcases hb with (hb|hb)|hb <;> omega
     ·rcases hb with (hb|hb)|hb
      ·exact .inl hb
      ·exact .inr ⟨hb.1,by omega⟩
      ·exact .inr ⟨by omega,hb.2⟩
    simp -implicitDefEqProofs [t2,t3,t4,t7,a3,f0,cK,rs,ne1,U7,XM,ne6,d27,wj]
    refine⟨x.ai.length-(j+1),by omega,j+1,by omega,rfl,by simp,kQ _ _,by omega,t'.1,t'.2,rfl,f1.trans g1.symm,f2.trans g2.symm,two _ _⟩
   ·have eD: ¬ (j:Int)<(x.ai.length:Int):=by omega
    have uA:j=x.ai.length:=by omega
    rw[uA,List.take_length]at hRj
    simp -implicitDefEqProofs [t2,t3,t4,t7,e0,e1,e2,hjl,eD,cK,iq,iY]
    refine fin H1 Rj Uj _ _ k1 n1 ?_ (by rw[htk];exact nK.nil _ _) (by rw[htk,hRj];rfl)
    have hb:=(h.below.le k1).weak (D':=fun b=>(D b∧b<H.next)∨(H.next+3≤b∧b<H1.next)) fun b z=>.inl z
    rw[hUj]
    refine⟨?_,?_,sw,?_⟩
    ·rw[hRj];exact hb.a
    ·rw[hRj];exact hb.p
    ·rw[q3];exact hb.v
 rw[if_neg d6]at htk
 by_cases dl:x.ai.length=1
 rotate_left
 ·rw[if_neg (by omega),if_neg (by omega)]at htk
  have dl': ¬ (x.ai.length:Int)=1:=by omega
  by_cases d3:x.kind=3
  ·simp -implicitDefEqProofs [aW,aC,←hH0,g0,g1,g2,Pd,Pe,ND,NF,cK,iq,iY,eq_true c1,c2,c3,d1,d2,d5,d6,eq_true d3,dl,dl']
   exact same htk _
  ·by_cases d4:x.kind=4
   ·simp -implicitDefEqProofs [aW,aC,←hH0,g0,g1,g2,Pd,Pe,ND,NF,cK,iq,iY,eq_true c1,c2,c3,d1,d2,d5,d6,d3,eq_true d4,dl,dl']
    exact same htk _
   ·simp -implicitDefEqProofs [aW,aC,←hH0,g0,g1,g2,Pd,Pe,ND,NF,cK,iq,iY,eq_true c1,c2,c3,d1,d2,d5,d6,d3,d4,dl,dl']
    exact same htk _
 by_cases d3:x.kind=3
 ·rw[if_pos ⟨d3,dl⟩]at htk
  obtain⟨v,hv⟩: ∃v,x.ai=[v]:=by
   match hq:x.ai,dl with
   |[v],_=>exact⟨v,rfl⟩
  have hh:gF x.ai=v:=by rw[hv];rfl
  rw[hh]at htk
  obtain⟨b,o,cc,cs,ro,ea,hbl,hget,hrl,hrow,hbd⟩:=(hu.1.sl.le k0).at (i:=0) (r:=aG v) (by rw[hv];rfl)
  rw[List.length_map]at ea
  simp only[Value.slice.injEq]at ea
  obtain⟨rfl,-,rfl⟩:=ea
  simp only[aG,Nat.zero_mul,Nat.add_zero]at hrow hbd
  have hbH:b<H.next:=hu.below.1.2 b o _ _ rfl (by rw[hv];simp) |>.2
  have dl':(x.ai.length:Int)=1:=by omega
  have h01:0<x.ai.length:=by omega
  have ht2:(cs.drop (o+1)).take 2=[.int .i64 v.a,.int .i64 v.n]:=by
   have:=congrArg (fun l=>(l.drop 1).take 2) hrow
   simpa[List.drop_take,List.drop_drop,List.take_take]using this
  have hb2:o+1+2≤cs.length:=by omega
  simp -implicitDefEqProofs [aW,aC,←hH0,g0,g1,g2,Pd,Pe,ND,NF,cK,iq,iY,eq_true c1,c2,c3,d1,d2,d5,d6,eq_true d3,eq_true dl,eq_true dl',h01,hget,hrow,hbd,ht2,hb2]
  refine aI c.mono (Q6 c mM h19 h21 (x:=v.a) (n:=v.n) hd0 fun H1 k1 i1=> ?_)
  have n1:=k1.next
  obtain⟨R1,ve⟩: ∃R1,R1=R.step v.a v.n:=⟨_,rfl⟩
  have hRA:R1.A=R.A:=by rw[ve];rfl
  have XG:R1.n=R.n:=by rw[ve];rfl
  rw[←ve]at i1 htk ⊢
  have e0:=(k1.get H.next (by omega)).trans g0
  have e1:=(k1.get (H.next+1) (by omega)).trans g1
  have e2:=(k1.get (H.next+2) (by omega)).trans g2
  have eb:=(k1.get b (by omega)).trans hget
  have d27:List.drop 27 (dm R U)=[]:=rfl
  obtain⟨H2,hH2⟩: ∃X:aa,X=H1.set H.next (.cells (dm R1 U) false):=⟨_,rfl⟩
  have k2:H.le H2:=by rw[hH2];exact(k0.trans k1).set (Nat.le_refl _) _
  have n2:H2.next=H1.next:=by rw[hH2];rfl
  have f0:H2.get H.next=some (.cells (dm R1 U) false):=by rw[hH2];simp only[YV,YW,YX,YY];repeat (first|rw[if_pos trivial]|rw[if_pos (by omega)]|rw[if_neg (by omega)])
  have f1:H2.get (H.next+1)=some (.cells [.int .i64 x.kind,.int .i64 x.fr,.int .i64 x.to,.int .i64 x.slot,.int .i64 x.ba,.int .i64 x.bn,.slice (some ⟨b,o,none⟩) x.ai.length uc] false):=by rw[hH2,YW,if_neg (by omega)];exact e1
  have f2:H2.get (H.next+2)=some (.cells [.int .i64 0,.int .i64 0,.int .i64 0,.int .i64 0,.int .i64 0,.slice none 0 0,.int .i64 0,.int .i64 0,.int .i64 0,.int .i64 0,.int .i64 0,.int .i64 0,.bool false,.bool false,.bool false,.bool false,.bool false,.bool false,.bool false,.bool false,.bool false,.bool false,.slice none 0 0,.int .i64 0,.int .i64 0,.slice none 0 0,.slice none 0 0] false):=by rw[hH2,YW,if_neg (by omega)];exact e2
  have fb:H2.get b=some (.cells cs ro):=by rw[hH2,YW,if_neg (by omega)];exact eb
  obtain⟨H3,hH3⟩: ∃X:aa,X=H2.alloc (.cells [.int .i64 0,.int .i64 0,.int .i64 0,.slice none 0 0] false):=⟨_,rfl⟩
  have k3:H2.le H3:=by rw[hH3];exact H2.aj _
  have n3:H3.next=H2.next+1:=by rw[hH3];rfl
  have a3:H3.get H2.next=some (.cells [.int .i64 0,.int .i64 0,.int .i64 0,.slice none 0 0] false):=by rw[hH3,YV,if_pos rfl]
  simp -implicitDefEqProofs [e0,cK,iY,iq,d27,←hH2,f0,f1,qaU,hRA,fb,h01,hrow,hbd,←hH3]
  have al:=ft.al
  have hA3:=(h.a.below.le k2).le k3
  refine aI c.mono (OW c En mM (A:=R.A) (v:=v) ft.so hA3.2 (by omega) fun u' H4 k4 sw blk=> ?_)
  have n4:=k4.next
  obtain⟨A2,hA2⟩: ∃A2,A2=(R.A.accept v).1:=⟨_,rfl⟩
  obtain⟨ok,hok⟩: ∃ok,ok=(R.A.accept v).2:=⟨_,rfl⟩
  unfold aV
  rw[←hA2,←hok]
  rw[←hA2,←hok]at htk
  rw[←hA2]at sw
  have sA:eP (fun b=>(D b∧b<H.next)∨(H3.next≤b∧b<H4.next)) H4 4 u' (A2.L.map aG):=by
   rcases blk with rfl|blk
   ·refine⟨⟨sw.1,fun b o n c e hr=>.inl (hA3.1.2 b o n c e ?_)⟩,sw⟩
    obtain⟨a',cp',e'⟩:=sw.len
    simp only[Value.slice.injEq]at e'
    intro hz
    refine hr ?_
    have h1:=congrArg List.length hz
    rw[List.length_map,List.length_nil]at h1
    rw[List.length_map]at e'
    exact List.length_eq_zero_iff.1 (by rw[List.length_map];omega)
   ·exact(sw.swN blk).weak fun b hb=>.inr hb
  obtain⟨a',rfl⟩:=sA.cut
  have b0:=((k3.trans k4).get H.next (by omega)).trans f0
  have b1:=((k3.trans k4).get (H.next+1) (by omega)).trans f1
  have b2:=((k3.trans k4).get (H.next+2) (by omega)).trans f2
  have bb:=((k3.trans k4).get b (by omega)).trans fb
  have a4:=(k4.get H2.next (by omega)).trans a3
  have ML:=rS2 (R:=R1) (U:=U) (A:=A2) (a:=a')
  obtain⟨R2,hR2⟩: ∃R2:DR,R2={R1 with A:=A2}:=⟨_,rfl⟩
  obtain⟨U2,Vn⟩: ∃U2:RU,U2={U with a:=a'}:=⟨_,rfl⟩
  rw[←hR2,←Vn]at ML
  rw[←hR2]at htk
  have ne1: ¬ H.next=H2.next:=by omega
  have ME: ¬ H.next+1+1=H2.next:=by omega
  have ZE: ¬ H.next+1=H2.next:=by omega
  have U7: ¬ H2.next=H.next:=by omega
  have XL: ¬ H.next+1+1=H.next:=by omega
  have XM: ¬ b=H2.next:=by omega
  have ne6: ¬ b=H.next:=by omega
  obtain⟨H6,hH6⟩: ∃X:aa,X=(H4.set H2.next (.cells [.int .i64 A2.pa,.int .i64 A2.pn,.int .i64 A2.base,.slice a'.1 A2.L.length a'.2] false)).set H.next (.cells (dm R2 U2) false):=⟨_,rfl⟩
  have k6:H.le H6:=by rw[hH6];exact(((k2.trans k3).trans k4).set (by omega) _).set (Nat.le_refl _) _
  have n6:H6.next=H4.next:=by rw[hH6];rfl
  have c0:H6.get H.next=some (.cells (dm R2 U2) false):=by rw[hH6];simp only[YV,YW,YX,YY];repeat (first|rw[if_pos trivial]|rw[if_pos (by omega)]|rw[if_neg (by omega)])
  have c1':H6.get (H.next+1)=some (.cells [.int .i64 x.kind,.int .i64 x.fr,.int .i64 x.to,.int .i64 x.slot,.int .i64 x.ba,.int .i64 x.bn,.slice (some ⟨b,o,none⟩) x.ai.length uc] false):=by rw[hH6,YW,if_neg (by omega),YW,if_neg (by omega)];exact b1
  have c2':H6.get (H.next+2)=some (.cells [.int .i64 0,.int .i64 0,.int .i64 0,.int .i64 0,.int .i64 0,.slice none 0 0,.int .i64 0,.int .i64 0,.int .i64 0,.int .i64 0,.int .i64 0,.int .i64 0,.bool false,.bool false,.bool false,.bool false,.bool false,.bool false,.bool false,.bool false,.bool false,.bool false,.slice none 0 0,.int .i64 0,.int .i64 0,.slice none 0 0,.slice none 0 0] false):=by rw[hH6,YW,if_neg (by omega),YW,if_neg (by omega)];exact b2
  have cb:H6.get b=some (.cells cs ro):=by rw[hH6,YW,if_neg (by omega),YW,if_neg (by omega)];exact bb
  have sA6:eP (fun b=>(D b∧b<H.next)∨(H.next+3≤b∧b<H6.next)) H6 4 (.slice a'.1 A2.L.length a'.2) (A2.L.map aG):=by
   rw[hH6]
   refine(sA.fr (((Fr.refl (fun b=>b=H2.next∨b=H.next) H4).set (.inl (.inl rfl)) _).set (.inl (.inr rfl)) _) (fun b hb hn=> ?_)).weak fun b hb=> ?_
   ·rcases hn with hn|hn <;> rcases hb with hb|hb <;> omega
   ·rcases hb with hb|hb
    ·exact .inl hb
    ·exact .inr ⟨by omega,hb.2⟩
  have i6:qG (fun b=>(D b∧b<H.next)∨(H.next+3≤b∧b<H6.next)) H6 R2 U2:=by
   have hb:=(h.below.le k6).Q7 (P':=R1.P) (by rw[ve];exact Hy _ _ _)
   have hb:=hb.weak (D':=fun b=>(D b∧b<H.next)∨(H.next+3≤b∧b<H6.next)) fun b z=>.inl z
   rw[hR2,Vn]
   refine⟨sA6,hb.p,?_,?_⟩
   ·rw[ve];exact hb.t
   ·rw[ve];exact hb.v
  cases ok with
  |false=>
   rw[if_neg (by simp)]at htk
   simp -implicitDefEqProofs [a4,b0,b1,b2,cK,ML,ne1,ME,ZE,U7,XL,XM,ne6,iq,iY,←hH6,c0,c2']
   exact fin H6 R2 U2 _ _ k6 (by omega) i6 (by rw[htk];exact nK.nil _ _) (by rw[htk])
  |true=>
   rw[if_pos rfl]at htk
   obtain⟨H7,hH7⟩: ∃X:aa,X=H6.alloc (.cells [.int .i64 v.slot,.int .i64 v.a,.int .i64 v.n,.string v.val] false):=⟨_,rfl⟩
   have k7:H6.le H7:=by rw[hH7];exact H6.aj _
   have n7:H7.next=H6.next+1:=by rw[hH7];rfl
   have v7:H7.get H6.next=some (.cells (aG v) false):=by rw[hH7,YV,if_pos rfl];rfl
   have ov:=NG v7 (by omega)
   have d0:=(k7.get H.next (by omega)).trans c0
   have d2':=(k7.get (H.next+2) (by omega)).trans c2'
   have qcs:0≤R2.n∧R2.n≤7:=by
    have e:R2.n=R.n:=by rw[hR2];exact XG
    rw[e];omega
   have U3:=Pf c h21 (H:=H7) (K:=fun r H8=>H7.le H8∧Gr H8 H7.next 7 r ((kJ R2 (cB 4 v)).map fun y=>aC y (.slice (some ⟨H6.next,0,none⟩) 1 1))) (R:=R2) (U:=U2) (x:=cB 4 v) (ua:=some ⟨H6.next,0,none⟩) (n:=1) (uc:=1) qcs fun w H8 k8 g8=>⟨k8,g8⟩
   have hal:kJ R2 (cB 4 v)=kJ R (cB 4 v):=by rw[hR2,ve];rfl
   simp -implicitDefEqProofs [a4,b0,b1,b2,cK,ML,ne1,ME,ZE,U7,XL,XM,ne6,iq,iY,←hH6,c0,c1',c2',cb,h01,hrow,hbd,←hH7,d0]
   refine aI c.mono (c.mono _ _ _ _ _ (fun w H8 hr=> ?_) U3)
   obtain⟨k8,g8⟩:=hr
   have n8:=k8.next
   have x0:=(k8.get H.next (by omega)).trans d0
   have x2:=(k8.get (H.next+2) (by omega)).trans d2'
   rw[hal]at g8
   have hns:=nK.same g8 (fun y hy=>by rw[xU R (cB 4 v) y hy];exact ov.le k8)
   simp -implicitDefEqProofs [x0,x2,cK,iq,iY]
   refine fin H8 R2 U2 _ _ ((k6.trans k7).trans k8) (by omega) (((i6.le k7).le k8).weak fun b hb=> ?_) (by
    rw[htk]
    exact hns.weak fun b hb=>by
     show H.next+3≤b∧b<H8.next
     rcases hb with hb|hb
     ·have hb:b=H6.next:=hb
      omega
     ·omega) (by rw[htk])
   rcases hb with hb|hb
   ·exact .inl hb
   ·exact .inr ⟨hb.1,by omega⟩
 rw[if_neg (by omega)]at htk
 by_cases d4:x.kind=4
 rotate_left
 ·rw[if_neg (by omega)]at htk
  simp -implicitDefEqProofs [aW,aC,←hH0,g0,g1,g2,Pd,Pe,ND,NF,cK,iq,iY,eq_true c1,c2,c3,d1,d2,d5,d6,d3,d4]
  exact same htk _
 rw[if_pos ⟨d4,dl⟩]at htk
 obtain⟨v,hv⟩: ∃v,x.ai=[v]:=by
  match hq:x.ai,dl with
  |[v],_=>exact⟨v,rfl⟩
 have hh:gF x.ai=v:=by rw[hv];rfl
 rw[hh]at htk
 obtain⟨b,o,cc,cs,ro,ea,hbl,hget,hrl,hrow,hbd⟩:=(hu.1.sl.le k0).at (i:=0) (r:=aG v) (by rw[hv];rfl)
 rw[List.length_map]at ea
 simp only[Value.slice.injEq]at ea
 obtain⟨rfl,-,rfl⟩:=ea
 simp only[aG,Nat.zero_mul,Nat.add_zero]at hrow hbd
 have dl':(x.ai.length:Int)=1:=by omega
 have h01:0<x.ai.length:=by omega
 obtain⟨H1,hH1⟩: ∃X:aa,X=H0.alloc (.cells [.int .i64 0,.int .i64 0,.slice none 0 0,.slice none 0 0] false):=⟨_,rfl⟩
 have k1:H0.le H1:=by rw[hH1];exact H0.aj _
 have n1:H1.next=H0.next+1:=by rw[hH1];rfl
 have a1:H1.get H0.next=some (.cells [.int .i64 0,.int .i64 0,.slice none 0 0,.slice none 0 0] false):=by rw[hH1,YV,if_pos rfl]
 simp -implicitDefEqProofs [aW,aC,←hH0,g0,g1,g2,Pd,Pe,ND,NF,cK,iq,iY,eq_true c1,c2,c3,d1,d2,d5,d6,d3,eq_true d4,eq_true dl,eq_true dl',h01,U4,hget,hrow,hbd,←hH1]
 have tl:=ft.tl
 have vl:=ft.vl
 have hd1:=hd0.le k1
 refine aI c.mono (Xk c mM hQ h20 (l:=R.L) (fr:=x.fr) (v:=v) hd1.t hd1.v (by omega) (by omega) fun u' w' H2 k2 su sw=> ?_)
 obtain⟨t',rfl⟩:=su.cut
 obtain⟨v',rfl⟩:=sw.cut
 obtain⟨L2,hL2⟩: ∃L2,L2=(R.L.hear x.fr v).1:=⟨_,rfl⟩
 rw[←hL2]at su sw htk ⊢
 have n2:=k2.next
 have b0:=((k1.trans k2).get H.next (by omega)).trans g0
 have b2:=((k1.trans k2).get (H.next+2) (by omega)).trans g2
 have a2:=(k2.get H0.next (by omega)).trans a1
 unfold Gv
 have rs:=qaV (R:=R) (U:=U) (l:=L2) (t:=t') (v:=v')
 obtain⟨R1,ve⟩: ∃R1:DR,R1={R with L:=L2}:=⟨_,rfl⟩
 obtain⟨U1,MK⟩: ∃U1:RU,U1={U with t:=t',v:=v'}:=⟨_,rfl⟩
 rw[←ve,←MK]at rs
 have ne1: ¬ H.next=H0.next:=by omega
 have ME: ¬ H.next+2=H0.next:=by omega
 have ZE: ¬ H.next+1+1=H0.next:=by omega
 have U7: ¬ H0.next=H.next:=by omega
 have XL: ¬ H.next+1+1=H.next:=by omega
 have d27:List.drop 27 (dm R U)=[]:=rfl
 simp -implicitDefEqProofs [a2,b0,b2,cK,rs,ne1,ME,ZE,U7,XL,iq,iY,d27]
 have kQ: ∀o1 o2,H.le ((H2.set H0.next o1).set H.next o2):=fun o1 o2=>((((k0.trans k1).trans k2).set (by omega) _).set (Nat.le_refl _) _)
 have two: ∀(o1 o2:fK) {size:Nat} {v:Value} {rows:List (List Value)},eP (Nw (fun b=>D b∧b<H.next) H1 H2) H2 size v rows→eP (fun b=>(D b∧b<H.next)∨(H.next+3≤b∧b<((H2.set H0.next o1).set H.next o2).next)) ((H2.set H0.next o1).set H.next o2) size v rows:=by
  intro o1 o2 size v rows q
  refine(q.fr (((Fr.refl (fun b=>b=H0.next∨b=H.next) H2).set (.inl (.inl rfl)) o1).set (.inl (.inr rfl)) o2) (fun b hb hn=> ?_)).weak fun b hb=> ?_
  ·rcases hn with hn|hn <;> rcases hb with hb|hb <;> omega
  ·rcases hb with hb|hb
   ·exact .inl hb
   ·exact .inr ⟨by omega,hb.2⟩
 have hend:=fun o1 o2 o3=>fin ((H2.set H0.next o1).set H.next o2) R1 U1 (.slice none 0 0) o3 (kQ o1 o2) (by rw[YY,YY];omega)
  (by rw[ve,MK];exact(((h.below.le (kQ o1 o2)).weak fun b hb=>.inl hb)).qcr (two o1 o2 su) (two o1 o2 sw)) (by rw[htk];exact nK.nil _ _) (by rw[htk,ve])
 exact hend _ _ _
end
end
end
theorem RL.next {p:DL}{q:Lr}(h:RL p q):kV p=gD q:=by
 unfold kV gD
 rw[h.pb,h.qb]
 congr 1
 funext s
 rw[h.told]
theorem RL.log {p:DL}{q:Lr}(h:RL p q)(u:Int):Ht p u=DF q u:=by
 unfold Ht DF
 rw[h.pb,h.qb,h.next]
 congr 1
 funext i
 rw[h.told]
structure RN (R:DR)(Q:Rp):Prop where
 n:R.n=Q.n
 me:R.me=Q.me
 A:R.A=Q.A
 P:RP R.P Q.P
 L:RL R.L Q.L
theorem RN.all {R:DR}{Q:Rp}(h:RN R Q)(x:az):kJ R x=lQ Q x:=by unfold kJ lQ;rw[h.n,h.me]
theorem RN.lead {R:DR}{Q:Rp}(h:RN R Q):RN R.lead.1 Q.lead.1∧R.lead.2=Q.lead.2:=by
 obtain⟨h1,h2⟩:=h.P.lead Q.A.pa Q.A.pn (gD Q.L)
 unfold DR.lead Rp.lead
 rw[h.A,h.L.next,h2]
 by_cases hz:(Q.P.lead Q.A.pa Q.A.pn (gD Q.L)).2.2≠0
 ·rw[if_pos hz,if_pos hz];exact⟨h,rfl⟩
 ·rw[if_neg hz,if_neg hz]
  exact⟨⟨h.n,h.me,rfl,h1,h.L⟩,h.all _⟩
theorem RN.step {R:DR}{Q:Rp}(h:RN R Q)(a n:Int):RN (R.step a n) {Q with P:=(Q.P.step a n).1}:=⟨h.n,h.me,h.A,h.P.step a n,h.L⟩
theorem RN.bQ {R:DR}{Q:Rp}(h:RN R Q)(x:az):RN (R.bQ x).1 (Q.bQ x).1∧(R.bQ x).2=(Q.bQ x).2:=by
 have hs:=h.step x.ba x.bn
 unfold DR.bQ Rp.bQ
 rw[h.A,h.me]
 by_cases h1:x.slot<0∨1024≤x.slot
 ·rw[if_pos h1,if_pos h1];exact⟨hs,rfl⟩
 ·rw[if_neg h1,if_neg h1]
  by_cases h2:(Q.A.promise x.ba x.bn x.slot).2.2=false
  ·rw[if_pos h2,if_pos h2];exact⟨⟨hs.n,hs.me,rfl,hs.P,hs.L⟩,rfl⟩
  ·rw[if_neg h2,if_neg h2];exact⟨⟨hs.n,hs.me,rfl,hs.P,hs.L⟩,rfl⟩
theorem RN.promise {R:DR}{Q:Rp}(h:RN R Q)(hn:0≤Q.P.n∧Q.P.n≤7)(x:az)(ho:(Q.P.promise x.fr x.ba x.bn x.ai).1.ok):RN (R.promise x).1 (Q.promise x).1∧(R.promise x).2=(Q.promise x).2:=by
 obtain⟨h1,h2⟩:=h.P.promise hn x.fr x.ba x.bn x.ai
 unfold DR.promise Rp.promise
 rw[h2]
 by_cases hz:(Q.P.promise x.fr x.ba x.bn x.ai).2=false
 ·rw[if_pos hz,if_pos hz];exact⟨⟨h.n,h.me,h.A,h1,h.L⟩,rfl⟩
 ·rw[if_neg hz,if_neg hz]
  have hd:=(E8 (by simpa using hz)).1
  have hf:=h1.fill ho hd
  rw[hf]
  by_cases hq:(Q.P.promise x.fr x.ba x.bn x.ai).1.filled=true
  ·rw[if_pos hq,if_pos hq];exact⟨⟨h.n,h.me,h.A,h1,h.L⟩,rfl⟩
  ·rw[if_neg hq,if_neg hq]
   refine⟨⟨h.n,h.me,h.A,h1.gG,h.L⟩,?_⟩
   simp only[h.all]
end Go.Proofs.YtpbbjfighohokaaGreatI
