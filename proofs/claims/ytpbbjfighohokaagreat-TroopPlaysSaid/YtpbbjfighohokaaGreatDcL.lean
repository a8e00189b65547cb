/- The document's nodes: the log; votes heard. / The document's nodes: a node as it lies; a note to all. / The document's nodes: new, given way, crashed; what is asked. / The document's nodes: crashed; a value asked for. / The document's nodes: who leads; who promises. / The document's nodes: asked to  -/
import Derived.Test.YtpbbjfighohokaaGreatDcF
namespace Go.Proofs.YtpbbjfighohokaaGreatI
open Go
set_option linter.unusedSimpArgs false
set_option linter.unusedVariables false
section
attribute [local simp] J0 J1 J2 J3 J4 J5 J6 J7 J8 J9 Ja Jb Jc Jd Je Jf Jg Jh Ji Jj Jk Jl Jm Jn Jo Jp Jq Jr Js Jt Ju Jv Jw Jx Jy Jz JA JB JC JD JE JF JG JH JI JJ JK JL JM JN JO JP JQ JR JS aQ bZ.kind JT JU JV JW JX JY JZ Y0 Y1 Y2 Y3 Y4 Y5 Y6 Y7 Y8 Y9 Ya Yb Yc Yd Ye Yf Yg Yh Yi Yj Yk Yl Ym Yn Yo Yp Yq jq Yr Ys Yt Yu Yv Yw Yx Yy dZ bA bE Yz YA YB YC YD YE eO YF YG YH YI YJ YK YL YM YN YO YP YQ YR YS YT YU nP bK jR nG bu putAt aa.ah aa.aP aa.aK YV YW YX YY YZ B0 B1 B2 B3 B4 B5 B6 B7 B8 B9 Ba Bb Bc Bd Be Bf Bg Bh Bi Bj Bk Bl Bm Bn Bo Bp
section
def SS (x:ByteArray):List Value:=[.string x]
theorem L9 (l:DL)(hb:0≤l.base∧l.base≤1024):l.base≤kV l∧kV l≤1024:=by
 have:=GI (fun s=>(kU l s).isSome) (1024-l.base).toNat l.base
 unfold kV
 exact⟨this.1,by have:=this.2.1;omega⟩
section
variable (c:Ctx) (mM:dw c) (hQ:bN c) (h20:eG c) {H:aa} {K:Value→aa→Prop} {D:Nat→Prop}
include h20 in
theorem TQ {l:DL}{u v:Value}{s:Int}(hu:qJ H 2 u (l.told.map kT))(hl:l.told.length≤1000000)(hb:0≤l.base∧l.base≤1024)
 (hK: ∀w H',H.le H'→Gr H' H.next 1 w ((Ht l s).map SS)→K w H'):c.C (c.F FB) [Gv l u v,.int .i64 s] H K:=by
 refine c.enter h20.I5 rfl ?_
 obtain⟨st,hst⟩: ∃st,st=(if s<l.base then l.base else s):=⟨_,rfl⟩
 have qcM:l.base≤st:=by rw[hst];split <;> omega
 obtain⟨N,hN⟩: ∃N,N=kV l:=⟨_,rfl⟩
 have hn:=L9 l hb
 rw[←hN]at hn
 obtain⟨M,hM⟩: ∃M:Nat,M=(N-st).toNat:=⟨_,rfl⟩
 have qcm:Ht l s=(List.range M).map fun(i:Nat)=>(kU l (st+i)).getD Pz:=by unfold Ht;rw[←hst,←hN,←hM]
 rw[qcm]at hK
 obtain⟨H0,hH0⟩: ∃X:aa,X=H.alloc (.cells [.int .i64 l.n,.int .i64 l.base,u,v] false):=⟨_,rfl⟩
 have k0:H.le H0:=by rw[hH0];exact H.aj _
 have g0:H0.get H.next=some (.cells [.int .i64 l.n,.int .i64 l.base,u,v] false):=by rw[hH0,YV,if_pos rfl]
 have n0:H0.next=H.next+1:=by rw[hH0];rfl
 simp -implicitDefEqProofs [oK,Gv,←hH0,g0]
 refine aS c.mono (fun k T H'=> ∃j:Nat,j≤M∧k=M-j∧T 2 = .pointer (some ⟨H.next,0,none⟩)∧T 6 = .int .i64 (st+j)∧H0.le H'∧Gr H' H0.next 1 (T 5) (((List.range j).map fun(i:Nat)=>(kU l (st+i)).getD Pz).map SS)) M ?_ ?_
 ·refine⟨0,by omega,rfl,?_⟩
  simp -implicitDefEqProofs []
  exact⟨hst.symm,aa.le_refl _,Gr.nil _ _ _⟩
 ·rintro k T H' ⟨j,hj,rfl,t2,t6,kH,gr⟩
  have nH:=kH.next
  have gH:=(kH.get H.next (by omega)).trans g0
  simp -implicitDefEqProofs [t2,t6,gH]
  refine av (L8 c h20 (l:=l) (hu.le (k0.trans kH)) hl hb fun H1 k1=> ?_)
  rw[←hN]
  have n1:=k1.next
  have g1:=(k1.get H.next (by omega)).trans gH
  by_cases hjM:j<M
  ·have h1:st+j<N:=by omega
   have wj:IntKind.i64.wrap (st+j+1)=st+j+1:=wrap64 (by omega) (by omega)
   simp -implicitDefEqProofs [t2,t6,h1,g1]
   refine av (L6 c h20 (l:=l) (s:=st+j) (hu.le ((k0.trans kH).trans k1)) hl fun H2 k2=> ?_)
   unfold stV
   have n2:=k2.next
   obtain⟨x,hx⟩: ∃x,x=(kU l (st+j)).getD Pz:=⟨_,rfl⟩
   have hrow:((List.range j).map fun(i:Nat)=>(kU l (st+i)).getD Pz).map SS++[[.string x]]=((List.range (j+1)).map fun(i:Nat)=>(kU l (st+i)).getD Pz).map SS:=by
    rw[List.range_succ,List.map_append,List.map_append,hx];rfl
   rw[←hx]
   obtain⟨v3,H3,e3,IB,q3,-⟩:=gr.one (H1:=H2.alloc (.cells [.string x] false)) (bytes:=16) (r:=[.string x]) ((k1.trans k2).alloc _) (by rw[YX];omega) (by omega) (by omega) (by rw[List.length_map,List.length_map,List.length_range];omega) (by rw[List.length_map,List.length_map,List.length_range];omega) rfl rfl
   have f3:=nJ H2 1 [.string x] rfl (by omega)
   rw[hrow]at IB
   simp -implicitDefEqProofs [t2,t6,bG,f3,e3,wj]
   exact⟨M-(j+1),by omega,j+1,by omega,rfl,by omega,(((kH.trans (k1.trans k2)).alloc (.cells [.string x] false)).keep (Nat.le_refl _) |>.trans q3).le (Nat.le_refl _),by rw[List.map_map]at IB;exact IB⟩
  ·have h1: ¬ st+j<N:=by omega
   have hz:j=M:=by omega
   simp -implicitDefEqProofs [t2,t6,h1]
   obtain⟨o,ga,gb⟩:=gr
   rw[hz]at ga
   have gg:Gr H' H.next 1 (T 5) (((List.range M).map fun(i:Nat)=>(kU l (st+i)).getD Pz).map SS):=⟨o,ga,fun b e=>by have:=gb b e;omega⟩
   exact hK _ _ ((k0.trans kH).trans k1) (gg.le k1)
def Dj (fr s:Int)(l:List (Int×ay)):List (Int×ay):=l.filter fun x=> !fZ fr s x
theorem SV (fr s:Int)(l:List (Int×ay))(x:Int×ay):Dj fr s (l++[x])=Dj fr s l++(if fZ fr s x=true then []else [x]):=by
 unfold Dj
 rw[List.filter_append]
 congr 1
 cases h:fZ fr s x <;> simp[h]
def Kv (l:DL)(fr:Int)(v:ay)(j:Nat):Prop:=((l.ai.take j).any fun x=>fZ fr v.slot x&&decide (0≤lX x.2.a x.2.n v.a v.n))=false
theorem U0 (L:List (Int×ay))(v:ay)(x:Int×ay):Cu (L++[x]) v=Cu L v+if x.2=v then 1 else 0:=by
 unfold Cu
 rw[List.countP_append]
 congr 1
 by_cases h:x.2=v <;> simp[h]
theorem Xj {cs r:List Value}{a:Value}{p:Nat}(h:(cs.drop p).take 5=a::r):(cs.drop (p+1)).take 4=r:=by
 have:=congrArg (List.drop 1) h
 rw[List.drop_take,List.drop_drop]at this
 simpa using this
theorem AP (l:DL)(s:Int)(t:ByteArray):(l.tell s t).1.n=l.n∧(l.tell s t).1.base=l.base∧(l.tell s t).1.ai=l.ai∧(l.tell s t).1.told.length≤l.told.length+1:=by
 unfold DL.tell
 split
 ·exact⟨rfl,rfl,rfl,by simp⟩
 ·exact⟨rfl,rfl,rfl,Nat.le_succ _⟩
theorem eP.below {D:Nat→Prop}{H:aa}{size:Nat}{v:Value}{rows:List (List Value)}(h:eP D H size v rows):eP (fun b=>D b∧b<H.next) H size v rows:=
 ⟨⟨h.1.1,fun b o n c e hr=>⟨h.1.2 b o n c e hr,h.1.1.slD.2 b o n c e hr⟩⟩,h.2⟩
theorem Zx (L:List (Int×ay))(v:ay):Cu L v≤L.length:=List.countP_le_length
include mM hQ h20 in
theorem Xk {l:DL}{fr:Int}{v:ay}{ua wa:Option Addr}{uc wc:Nat}(hu:eP D H 2 (.slice ua l.told.length uc) (l.told.map kT))(hw:eP D H 5 (.slice wa l.ai.length wc) (l.ai.map lS))(hl:l.told.length≤900000)(hlv:l.ai.length≤900000)
 (hK: ∀u' w' H',H.le H'→eP (Nw D H H') H' 2 u' ((l.hear fr v).1.told.map kT)→eP (Nw D H H') H' 5 w' ((l.hear fr v).1.ai.map lS)→K (.tuple #[Gv (l.hear fr v).1 u' w',.bool (l.hear fr v).2]) H'):
 c.C (c.F D9) [Gv l (.slice ua l.told.length uc) (.slice wa l.ai.length wc),.int .i64 fr,vV v] H K:=by
 refine c.enter h20.G9 rfl ?_
 unfold DL.hear at hK
 obtain⟨H0,hH0⟩: ∃X:aa,X=((H.alloc (.cells [.int .i64 l.n,.int .i64 l.base,.slice ua l.told.length uc,.slice wa l.ai.length wc] false)).alloc (.cells [.int .i64 v.slot,.int .i64 v.a,.int .i64 v.n,.string v.val] false)).alloc (.cells [.int .i64 0,.int .i64 0,.slice none 0 0,.slice none 0 0] false):=⟨_,rfl⟩
 have k0:H.le H0:=by rw[hH0];exact((H.aj _).alloc _).alloc _
 have n0:H0.next=H.next+3:=by rw[hH0];rfl
 have g0:H0.get H.next=some (.cells [.int .i64 l.n,.int .i64 l.base,.slice ua l.told.length uc,.slice wa l.ai.length wc] false):=by rw[hH0];simp only[YV,YX];repeat (first|rw[if_pos trivial]|rw[if_pos (by omega)]|rw[if_neg (by omega)])
 have g1:H0.get (H.next+1)=some (.cells [.int .i64 v.slot,.int .i64 v.a,.int .i64 v.n,.string v.val] false):=by rw[hH0];simp only[YV,YX];repeat (first|rw[if_pos trivial]|rw[if_pos (by omega)]|rw[if_neg (by omega)])
 have g2:H0.get (H.next+2)=some (.cells [.int .i64 0,.int .i64 0,.slice none 0 0,.slice none 0 0] false):=by rw[hH0];simp only[YV,YX];repeat (first|rw[if_pos trivial]|rw[if_pos (by omega)]|rw[if_neg (by omega)])
 have same: ∀(o:fK) (Q:aa),H.le Q→eP (Nw D H (Q.set (H.next+2) o)) (Q.set (H.next+2) o) 2 (.slice ua l.told.length uc) (l.told.map kT)∧eP (Nw D H (Q.set (H.next+2) o)) (Q.set (H.next+2) o) 5 (.slice wa l.ai.length wc) (l.ai.map lS):=fun o Q kQ=>
  ⟨(hu.le (kQ.set (by omega) _)).weak fun b hb=>.inl hb,(hw.le (kQ.set (by omega) _)).weak fun b hb=>.inl hb⟩
 have bad:(fr<0∨l.n≤fr∨bJ v.a v.n=false∨Ej l v.slot v.val=false)∨uO l fr v=true→∀(o:fK) (Q:aa),H.le Q→K (.tuple #[Gv l (.slice ua l.told.length uc) (.slice wa l.ai.length wc),.bool false]) (Q.set (H.next+2) o):=by
  intro hb o Q kQ
  have:=hK (.slice ua l.told.length uc) (.slice wa l.ai.length wc) (Q.set (H.next+2) o) (kQ.set (by omega) _)
  by_cases h1:fr<0∨l.n≤fr∨bJ v.a v.n=false∨Ej l v.slot v.val=false
  ·rw[if_pos h1]at this
   exact this (same o Q kQ).1 (same o Q kQ).2
  ·rw[if_neg h1,if_pos (hb.resolve_left h1)]at this
   exact this (same o Q kQ).1 (same o Q kQ).2
 unfold Gv at bad
 by_cases c1:fr<0
 ·simp -implicitDefEqProofs [gP,Gv,vV,←hH0,g0,g1,g2,c1]
  exact bad (.inl (.inl c1)) _ _ k0
 by_cases c2:l.n≤fr
 ·simp -implicitDefEqProofs [gP,Gv,vV,←hH0,g0,g1,g2,c1,c2]
  exact bad (.inl (.inr (.inl c2))) _ _ k0
 simp -implicitDefEqProofs [gP,Gv,vV,←hH0,g0,g1,g2,c1,c2]
 refine av (qC c mM fun H1 k1=> ?_)
 have n1:=k1.next
 have g0:=(k1.get H.next (by omega)).trans g0
 have g1:=(k1.get (H.next+1) (by omega)).trans g1
 have g2:=(k1.get (H.next+2) (by omega)).trans g2
 have k1:=k0.trans k1
 cases c3:bJ v.a v.n with
 |false=>
  simp -implicitDefEqProofs [g0,g1,g2]
  exact bad (.inl (.inr (.inr (.inl c3)))) _ _ k1
 |true=>
  simp -implicitDefEqProofs [g0,g1,g2]
  refine av (TP c h20 (l:=l) (s:=v.slot) (t:=v.val) (hu.1.sl.le k1) (by omega) fun H2 k2=> ?_)
  have n2:=k2.next
  have g0:=(k2.get H.next (by omega)).trans g0
  have g1:=(k2.get (H.next+1) (by omega)).trans g1
  have g2:=(k2.get (H.next+2) (by omega)).trans g2
  have k2:=k1.trans k2
  cases c4:Ej l v.slot v.val with
  |false=>
   simp -implicitDefEqProofs [g0,g1,g2]
   exact bad (.inl (.inr (.inr (.inr c4)))) _ _ k2
  |true=>
   rw[if_neg (by rw[c3,c4];simp[c1,c2])]at hK
   simp -implicitDefEqProofs [g0,g1,g2]
   refine aS c.mono (fun k T H'=> ∃j:Nat,j≤l.ai.length∧k=l.ai.length-j∧T 1 = .int .i64 fr∧T 3 = .pointer (some ⟨H.next,0,none⟩)∧T 5 = .pointer (some ⟨H.next+1,0,none⟩)∧T 6 = .pointer (some ⟨H.next+2,0,none⟩)∧T 9 = .int .i64 j ∧
    H2.le H'∧Kv l fr v j∧Gr H' H2.next 5 (T 8) ((Dj fr v.slot (l.ai.take j)).map lS)) l.ai.length ?_ ?_
   ·refine⟨0,by omega,rfl,?_⟩
    simp -implicitDefEqProofs []
    exact⟨aa.le_refl _,rfl,Gr.nil _ _ _⟩
   ·rintro k T H3 ⟨j,hj,rfl,t1,t3,t5,t6,t9,k3,hns,gr⟩
    have n3:=k3.next
    have e0:=(k3.get H.next (by omega)).trans g0
    have e1:=(k3.get (H.next+1) (by omega)).trans g1
    have e2:=(k3.get (H.next+2) (by omega)).trans g2
    have wj:IntKind.i64.wrap ((j:Int)+1)=(j:Int)+1:=wrap64 (by omega) (by omega)
    have hkl:(Dj fr v.slot (l.ai.take j)).length≤j:=by
     have:=List.length_filter_le (fun x=> !fZ fr v.slot x) (l.ai.take j)
     rw[List.length_take]at this
     unfold Dj;omega
    by_cases hjl:j<l.ai.length
    ·have eD:(j:Int)<(l.ai.length:Int):=by omega
     obtain⟨x,hxe⟩: ∃x,x=l.ai[j]:=⟨_,rfl⟩
     have hx:l.ai[j]? =some x:=by rw[hxe];exact List.getElem?_eq_getElem hjl
     obtain⟨b,o,cc,cs,ro,ea,hbl,hget,hrl,hrow,hbd⟩:=(hw.1.sl.le (k2.trans k3)).at (i:=j) (r:=lS x) (by simp[hx])
     rw[List.length_map]at ea
     simp only[Value.slice.injEq]at ea
     obtain⟨rfl,-,rfl⟩:=ea
     simp only[lS]at hrow
     have htk:l.ai.take (j+1)=l.ai.take j++[x]:=by rw[List.take_add_one,hx];rfl
     have hsn:=SV fr v.slot (l.ai.take j) x
     rw[←htk]at hsn
     have hst: ∀b,(fZ fr v.slot x&&decide (0≤lX x.2.a x.2.n v.a v.n))=b→((l.ai.take (j+1)).any fun x=>fZ fr v.slot x&&decide (0≤lX x.2.a x.2.n v.a v.n))=b:=by
      intro b hb
      unfold Kv at hns
      rw[htk,List.any_append,hns]
      simpa using hb
     obtain⟨H4,qN⟩: ∃X:aa,X=(H3.alloc (.cells [.int .i64 0,.int .i64 0,.int .i64 0,.int .i64 0,.string ⟨#[]⟩] false)).set H3.next (.cells [.int .i64 x.1,.int .i64 x.2.slot,.int .i64 x.2.a,.int .i64 x.2.n,.string x.2.val] false):=⟨_,rfl⟩
     have k4:H3.le H4:=by rw[qN];exact(H3.aj _).set (Nat.le_refl _) _
     have n4:H4.next=H3.next+1:=by rw[qN];rfl
     have b4:H4.get H3.next=some (.cells [.int .i64 x.1,.int .i64 x.2.slot,.int .i64 x.2.a,.int .i64 x.2.n,.string x.2.val] false):=by rw[qN,YW,if_pos rfl]
     have e0':=(k4.get H.next (by omega)).trans e0
     have e1':=(k4.get (H.next+1) (by omega)).trans e1
     have e2':=(k4.get (H.next+2) (by omega)).trans e2
     have other:fZ fr v.slot x=false→∃v5 H5,aY (H4.alloc (.cells [.int .i64 x.1,.int .i64 x.2.slot,.int .i64 x.2.a,.int .i64 x.2.n,.string x.2.val] false)) 5 48 (T 8) 1 [.int .i64 x.1,.int .i64 x.2.slot,.int .i64 x.2.a,.int .i64 x.2.n,.string x.2.val]=some (v5,H5)∧H2.le H5∧Kv l fr v (j+1)∧Gr H5 H2.next 5 v5 ((Dj fr v.slot (l.ai.take (j+1))).map lS):=by
      intro hs
      rw[hs]at hsn
      obtain⟨v5,H5,q1,q2,q3,-⟩:=gr.one (H1:=H4.alloc (.cells (lS x) false)) (bytes:=48) (r:=lS x) (k4.alloc _) (by rw[YX];omega) (by omega) (by omega) (by rw[List.length_map];omega) (by rw[List.length_map];omega) rfl rfl
      refine⟨v5,H5,q1,((((k3.trans k4).alloc (.cells (lS x) false)).keep (Nat.le_refl _)).trans q3).le (Nat.le_refl _),hst false (by rw[hs];rfl),?_⟩
      rw[hsn,List.map_append];exact q2
     have f5:=nJ H4 5 [.int .i64 x.1,.int .i64 x.2.slot,.int .i64 x.2.a,.int .i64 x.2.n,.string x.2.val] rfl (by omega)
     by_cases d1:x.1=fr
     ·by_cases d2:x.2.slot=v.slot
      ·have hs:fZ fr v.slot x=true:=by unfold fZ;rw[decide_eq_true d1,decide_eq_true d2];rfl
       have d1':=eq_true d1
       have d2':=eq_true d2
       simp -implicitDefEqProofs [t1,t3,t5,t6,t9,hjl,eD,e0,e1,hget,hrow,hbd,←qN,b4,e0',e1',d1',d2']
       refine av (vW c mM (a:=x.2.a) (n:=x.2.n) (b:=v.a) (m:=v.n) fun H5 k5=> ?_)
       have e0:=(k5.get H.next (by omega)).trans e0'
       have e2:=(k5.get (H.next+2) (by omega)).trans e2'
       by_cases d3:0≤lX x.2.a x.2.n v.a v.n
       ·have qaT:uO l fr v=true:=by
         have h1:=hst true (by rw[hs,decide_eq_true d3];rfl)
         unfold uO
         rw[List.any_eq_true]at h1 ⊢
         obtain⟨y,hy,h1⟩:=h1
         exact⟨y,List.mem_of_mem_take hy,h1⟩
        simp -implicitDefEqProofs [t1,t3,t5,t6,t9,e0,e2,d3]
        exact bad (.inr qaT) _ _ (((k2.trans k3).trans k4).trans k5)
       ·rw[hs,if_pos rfl,List.append_nil]at hsn
        simp -implicitDefEqProofs [t1,t3,t5,t6,t9,e0,e2,d3,wj]
        refine⟨l.ai.length-(j+1),by omega,j+1,by omega,rfl,by simp,(k3.trans k4).trans k5,hst false (by rw[hs,decide_eq_false d3];rfl),?_⟩
        rw[hsn]
        exact(gr.le k4).le k5
      ·obtain⟨v5,H5,ap,p1,p2,p3⟩:=other (by unfold fZ;rw[decide_eq_false d2,Bool.and_false])
       simp -implicitDefEqProofs [t1,t3,t5,t6,t9,hjl,eD,e0,e1,hget,hrow,hbd,←qN,b4,e0',e1',eq_true d1,d2,bG,f5,ap,wj]
       exact⟨l.ai.length-(j+1),by omega,j+1,by omega,rfl,by simp,p1,p2,p3⟩
     ·obtain⟨v5,H5,ap,p1,p2,p3⟩:=other (by unfold fZ;rw[decide_eq_false d1,Bool.false_and])
      simp -implicitDefEqProofs [t1,t3,t5,t6,t9,hjl,eD,e0,e1,hget,hrow,hbd,←qN,b4,e0',e1',d1,bG,f5,ap,wj]
      exact⟨l.ai.length-(j+1),by omega,j+1,by omega,rfl,by simp,p1,p2,p3⟩
    ·have eD: ¬ (j:Int)<(l.ai.length:Int):=by omega
     have uA:j=l.ai.length:=by omega
     rw[uA,List.take_length]at gr hkl
     have qag:uO l fr v=false:=by unfold Kv at hns;rw[uA,List.take_length]at hns;exact hns
     rw[qag,if_neg (by simp)]at hK
     obtain⟨L2,hL2⟩: ∃L2,L2=l.mG fr v:=⟨_,rfl⟩
     have q0:L2.n=l.n:=by rw[hL2];rfl
     have q1:L2.base=l.base:=by rw[hL2];rfl
     have q2:L2.told=l.told:=by rw[hL2];rfl
     have q3:L2.ai=Dj fr v.slot l.ai++[(fr,v)]:=by rw[hL2];rfl
     have q4:L2.ai.length=(Dj fr v.slot l.ai).length+1:=by rw[q3,List.length_append];rfl
     rw[←hL2]at hK
     obtain⟨v5,H5,ap5,MC,kp5,-⟩:=gr.one (H1:=H3.alloc (.cells (lS (fr,v)) false)) (bytes:=48) (r:=lS (fr,v)) (H3.aj _) (by rw[YX];omega) (by omega) (by omega) (by rw[List.length_map];omega) (by rw[List.length_map];omega) rfl rfl
     have hrw:(Dj fr v.slot l.ai).map lS++[lS (fr,v)]=L2.ai.map lS:=by rw[q3,List.map_append];rfl
     rw[hrw]at MC
     have k5:H2.le H5:=(((k3.alloc (.cells (lS (fr,v)) false)).keep (Nat.le_refl _)).trans kp5).le (Nat.le_refl _)
     have f5:=nJ H3 5 (lS (fr,v)) rfl (by omega)
     obtain⟨va,vc,hvv⟩: ∃va vc,v5 = .slice va L2.ai.length vc:=by obtain⟨a,cp,e⟩:=MC.grow.len;rw[List.length_map]at e;exact⟨_,_,e⟩
     rw[hvv]at MC ap5
     simp only[lS]at ap5 f5
     have n5:=k5.next
     have h0:=(k5.get H.next (by omega)).trans g0
     have h1:=(k5.get (H.next+1) (by omega)).trans g1
     have h2:=(k5.get (H.next+2) (by omega)).trans g2
     obtain⟨H6,hH6⟩: ∃X:aa,X=H5.set H.next (.cells [.int .i64 l.n,.int .i64 l.base,.slice ua l.told.length uc,.slice va L2.ai.length vc] false):=⟨_,rfl⟩
     have n6:H6.next=H5.next:=by rw[hH6];rfl
     have k6:H.le H6:=by rw[hH6];exact(k2.trans k5).set (Nat.le_refl _) _
     have i0:H6.get H.next=some (.cells [.int .i64 l.n,.int .i64 l.base,.slice ua l.told.length uc,.slice va L2.ai.length vc] false):=by rw[hH6,YW,if_pos rfl]
     have i1:H6.get (H.next+1)=some (.cells [.int .i64 v.slot,.int .i64 v.a,.int .i64 v.n,.string v.val] false):=by rw[hH6,YW,if_neg (by omega)];exact h1
     have i2:H6.get (H.next+2)=some (.cells [.int .i64 0,.int .i64 0,.slice none 0 0,.slice none 0 0] false):=by rw[hH6,YW,if_neg (by omega)];exact h2
     have XK:Gr H6 H2.next 5 (.slice va L2.ai.length vc) (L2.ai.map lS):=by rw[hH6];exact MC.set (by omega) _
     simp -implicitDefEqProofs [t1,t3,t5,t6,t9,hjl,eD,e0,e1,bG,f5,ap5,h0,h1,←hH6]
     refine aS c.mono (fun k T H'=> ∃j:Nat,j≤L2.ai.length∧k=L2.ai.length-j∧T 3 = .pointer (some ⟨H.next,0,none⟩)∧T 5 = .pointer (some ⟨H.next+1,0,none⟩)∧T 6 = .pointer (some ⟨H.next+2,0,none⟩)∧T 12 = .int .i64 j∧T 11 = .int .i64 (Cu (L2.ai.take j) v:Nat)∧H6=H') L2.ai.length ?_ ?_
     ·refine⟨0,by omega,rfl,?_⟩
      simp -implicitDefEqProofs [t3,t5,t6,Cu,hH6]
     ·rintro k T2 H7 ⟨j,hj,rfl,t3,t5,t6,t12,t11,rfl⟩
      have hcl:=Zx (L2.ai.take j) v
      rw[List.length_take]at hcl
      have wj:IntKind.i64.wrap ((j:Int)+1)=(j:Int)+1:=wrap64 (by omega) (by omega)
      have wc:IntKind.i64.wrap ((Cu (L2.ai.take j) v:Int)+1)=(Cu (L2.ai.take j) v:Int)+1:=wrap64 (by omega) (by omega)
      by_cases RA:j<L2.ai.length
      ·have Hu:(j:Int)<(L2.ai.length:Int):=by omega
       obtain⟨x,hxe⟩: ∃x,x=L2.ai[j]:=⟨_,rfl⟩
       have hx:L2.ai[j]? =some x:=by rw[hxe];exact List.getElem?_eq_getElem RA
       obtain⟨b,o,cc,cs,ro,ea,hbl,hget,hrl,hrow,hbd⟩:=XK.grow.Lg.at (i:=j) (r:=lS x) (by simp[hx])
       rw[List.length_map]at ea
       simp only[Value.slice.injEq]at ea
       obtain⟨rfl,-,rfl⟩:=ea
       have htk:L2.ai.take (j+1)=L2.ai.take j++[x]:=by rw[List.take_add_one,hx];rfl
       have hsn:=U0 (L2.ai.take j) v x
       rw[←htk]at hsn
       have ht4:=Xj hrow
       have qbE:o+j*5+1+4≤cs.length:=by omega
       by_cases hxv:x.2=v
       ·rw[if_pos hxv]at hsn
        rw[hxv]at ht4
        simp -implicitDefEqProofs [t3,t5,t6,t12,t11,RA,Hu,i0,i1,hget,ht4,qbE,wj,wc]
        exact⟨L2.ai.length-(j+1),by omega,j+1,by omega,rfl,by simp,by rw[hsn];simp⟩
       ·rw[if_neg hxv]at hsn
        have hne:(decide (x.2.slot=v.slot)&&(decide (x.2.a=v.a)&&(decide (x.2.n=v.n)&&decide (x.2.val=v.val))))=false:=by
         by_cases z1:x.2.slot=v.slot <;> by_cases z2:x.2.a=v.a <;> by_cases z3:x.2.n=v.n <;> by_cases z4:x.2.val=v.val <;> simp[z1,z2,z3,z4]
         exact hxv (by cases hh:x.2;cases v;simp_all)
        simp -implicitDefEqProofs [t3,t5,t6,t12,t11,RA,Hu,i0,i1,hget,ht4,qbE,wj,hne]
        exact⟨L2.ai.length-(j+1),by omega,j+1,by omega,rfl,by simp,by rw[hsn];simp⟩
      ·have Hu: ¬ (j:Int)<(L2.ai.length:Int):=by omega
       have uA:j=L2.ai.length:=by omega
       rw[uA,List.take_length]at t11 wc
       simp -implicitDefEqProofs [t3,t5,t6,t12,t11,RA,Hu,i0]
       refine av (lM c hQ ?_)
       by_cases hq:(Cu L2.ai v:Int)<aO l.n
       ·rw[if_pos hq]at hK
        simp -implicitDefEqProofs [t3,t5,t6,t11,i0,i2,hq]
        have fin:=hK (.slice ua l.told.length uc) (.slice va L2.ai.length vc) (H6.set (H.next+2) (.cells [.int .i64 l.n,.int .i64 l.base,.slice ua l.told.length uc,.slice va L2.ai.length vc] false)) (k6.set (by omega) _)
         (by rw[q2];exact(hu.le (k6.set (by omega) _)).weak fun b hb=>.inl hb) ((XK.set (by omega) _).grow.nw (by omega))
        unfold Gv at fin
        rw[q0,q1]at fin
        exact fin
       ·rw[if_neg hq]at hK
        simp -implicitDefEqProofs [t3,t5,t6,t11,i0,i1,i2,hq]
        have U3:=Q5 c h20 (H:=H6) (K:=fun r H'=> ∃u' b,r = .tuple #[Gv (L2.tell v.slot v.val).1 u' (.slice va L2.ai.length vc),.bool b]∧b=(L2.tell v.slot v.val).2∧H6.le H'∧eP (Nw (fun b=>D b∧b<H.next) H6 H') H' 2 u' ((L2.tell v.slot v.val).1.told.map kT)) (D:=fun b=>D b∧b<H.next) (l:=L2) (u:=.slice ua l.told.length uc) (va:=va) (vn:=L2.ai.length) (vc:=vc) (s:=v.slot) (t:=v.val)
         (by rw[q2];exact hu.below.le k6) (by rw[q2];omega) (fun u' H' k sw=>⟨u',_,rfl,rfl,k,sw⟩)
        unfold Gv at U3
        rw[q0,q1]at U3
        obtain⟨z0,z1,z2,-⟩:=AP L2 v.slot v.val
        refine av (c.mono _ _ _ _ _ (fun r H7 hr=> ?_) U3)
        obtain⟨u',b,rfl,rfl,k7,sw⟩:=hr
        have n7:=k7.next
        have i2':=(k7.get (H.next+2) (by omega)).trans i2
        obtain⟨ta,tc,hue⟩:=sw.2.len
        rw[hue]at sw
        simp -implicitDefEqProofs [t3,t5,t6,i2',hue,z0,z1,q0,q1]
        have fin:=hK (.slice ta ((L2.tell v.slot v.val).1.told.map kT).length tc) (.slice va L2.ai.length vc) (H7.set (H.next+2) (.cells [.int .i64 l.n,.int .i64 l.base,.slice ta ((L2.tell v.slot v.val).1.told.map kT).length tc,.slice va L2.ai.length vc] false)) ((k6.trans k7).set (by omega) _)
         ?_ (by rw[z2];exact((XK.le k7).set (by omega) _).grow.nw (by omega))
        ·unfold Gv at fin
         rw[z0,z1,q0,q1]at fin
         simpa using fin
        ·have:=k6.next
         refine(sw.fr ((Fr.refl (fun b=>b=H.next+2) H7).set (.inl rfl) _) (fun b hb hn=> ?_)).weak fun b hb=> ?_
         ·rcases hb with hb|hb <;> omega
         ·rcases hb with hb|hb
          ·exact .inl hb.1
          ·exact .inr ⟨by omega,hb.2⟩
end
end
section
structure RU where
 a:Option Addr×Nat
 p:Option Addr×Nat
 t:Option Addr×Nat
 v:Option Addr×Nat
def dm (R:DR)(U:RU):List Value:=drL R (.slice U.a.1 R.A.L.length U.a.2) (.slice U.p.1 R.P.L.length U.p.2) (.slice U.t.1 R.L.told.length U.t.2) (.slice U.v.1 R.L.ai.length U.v.2)
structure qG (D:Nat→Prop)(H:aa)(R:DR)(U:RU):Prop where
 a:eP D H 4 (.slice U.a.1 R.A.L.length U.a.2) (R.A.L.map aG)
 p:eP D H 4 (.slice U.p.1 R.P.L.length U.p.2) (R.P.L.map aG)
 t:eP D H 2 (.slice U.t.1 R.L.told.length U.t.2) (R.L.told.map kT)
 v:eP D H 5 (.slice U.v.1 R.L.ai.length U.v.2) (R.L.ai.map lS)
theorem qG.le {D:Nat→Prop}{H H':aa}{R:DR}{U:RU}(h:qG D H R U)(k:H.le H'):qG D H' R U:=⟨h.a.le k,h.p.le k,h.t.le k,h.v.le k⟩
theorem qG.weak {D D':Nat→Prop}{H:aa}{R:DR}{U:RU}(h:qG D H R U)(hd: ∀b,D b→D' b):qG D' H R U:=⟨h.a.weak hd,h.p.weak hd,h.t.weak hd,h.v.weak hd⟩
theorem qG.fr {D B:Nat→Prop}{H H':aa}{R:DR}{U:RU}(h:qG D H R U)(k:Fr B H H')(hd: ∀b,D b→¬ B b):qG D H' R U:=⟨h.a.fr k hd,h.p.fr k hd,h.t.fr k hd,h.v.fr k hd⟩
theorem qG.below {D:Nat→Prop}{H:aa}{R:DR}{U:RU}(h:qG D H R U):qG (fun b=>D b∧b<H.next) H R U:=⟨h.a.below,h.p.below,h.t.below,h.v.below⟩
theorem eP.cut {D:Nat→Prop}{H:aa}{size:Nat}{v:Value}{α:Type}{f:α→List Value}{l:List α}(h:eP D H size v (l.map f)): ∃u:Option Addr×Nat,v = .slice u.1 l.length u.2:=by
 obtain⟨a,cp,e⟩:=h.2.len
 rw[List.length_map]at e
 exact⟨(a,cp),e⟩
section
variable {R:DR} {U:RU} {P:DP} {l:DL} {u v w:Value}
theorem Pd:(dm R U)[0]? =some (.int .i64 R.n):=rfl
theorem Pe {h:0<(dm R U).length}:(dm R U)[0]'h = .int .i64 R.n:=rfl
theorem ND:(dm R U)[1]? =some (.int .i64 R.me):=rfl
theorem NF {h:1<(dm R U).length}:(dm R U)[1]'h = .int .i64 R.me:=rfl
theorem rP4:(dm R U)[4]? =some (.int .i64 R.A.base):=rfl
theorem rQ4 {h:4<(dm R U).length}:(dm R U)[4]'h = .int .i64 R.A.base:=rfl
theorem qbF:(dm R U)[24]? =some (.int .i64 R.L.base):=rfl
theorem qbG {h:24<(dm R U).length}:(dm R U)[24]'h = .int .i64 R.L.base:=rfl
theorem rT2:List.take 2 (List.drop 2 (dm R U))=[.int .i64 R.A.pa,.int .i64 R.A.pn]:=rfl
theorem qaU:List.take 4 (List.drop 2 (dm R U))=[.int .i64 R.A.pa,.int .i64 R.A.pn,.int .i64 R.A.base,.slice U.a.1 R.A.L.length U.a.2]:=rfl
theorem rT6:List.take 17 (List.drop 6 (dm R U))=fJ R.P (.slice U.p.1 R.P.L.length U.p.2):=rfl
theorem U4:List.take 4 (List.drop 23 (dm R U))=[.int .i64 R.L.n,.int .i64 R.L.base,.slice U.t.1 R.L.told.length U.t.2,.slice U.v.1 R.L.ai.length U.v.2]:=rfl
theorem cK:(dm R U).length=27:=rfl
theorem iq:List.take 27 (dm R U)=dm R U:=rfl
theorem Kw {a:Option Addr}{k cp:Nat}: ∀x ∈ fJ P (.slice a k cp),cO x=true:=List.all_eq_true.1 nN
theorem iY:(dm R U).all cO=true:=by
 unfold dm drL dlL
 simp only[List.all_cons,List.all_append,nN,List.all_nil,Bool.and_true]
 rfl
theorem rS6 {p:Option Addr×Nat}:List.take 6 (dm R U)++(fJ P (.slice p.1 P.L.length p.2)++List.drop 23 (dm R U))=dm {R with P:=P} {U with p:=p}:=rfl
theorem rS2 {a:Option Addr×Nat}{A:Acc}:List.take 2 (dm R U) ++ .int .i64 A.pa :: .int .i64 A.pn :: .int .i64 A.base :: .slice a.1 A.L.length a.2::List.drop 6 (dm R U)=dm {R with A:=A} {U with a:=a}:=rfl
theorem qaV {t v:Option Addr×Nat}:List.take 23 (dm R U)++[.int .i64 l.n,.int .i64 l.base,.slice t.1 l.told.length t.2,.slice v.1 l.ai.length v.2]=dm {R with L:=l} {U with t:=t,v:=v}:=rfl
end
section
variable (c:Ctx) (mM:dw c) (hQ:bN c) (h16:dS c) (En:eF c) (h19:dU c) (h20:eG c) (h21:fM c) {H:aa} {K:Value→aa→Prop} {D:Nat→Prop}
include h20 h21 in
theorem Zy {R:DR}{U:RU}(h:qG D H R U)(hl:R.L.told.length≤900000)(hb:0≤R.L.base∧R.L.base≤1024)(hK: ∀w H',H.le H'→Gr H' H.next 1 w ((Ht R.L 0).map SS)→K w H'):c.C (c.F FE) [.agg (dm R U).toArray] H K:=by
 refine c.enter h21.I8 rfl ?_
 obtain⟨H0,hH0⟩: ∃X:aa,X=H.alloc (.cells (dm R U) false):=⟨_,rfl⟩
 have k0:H.le H0:=by rw[hH0];exact H.aj _
 have g0:H0.get H.next=some (.cells (dm R U) false):=by rw[hH0,YV,if_pos rfl]
 have n0:H0.next=H.next+1:=by rw[hH0];rfl
 simp -implicitDefEqProofs [oN,←hH0,g0,U4,cK]
 refine av (TQ c h20 (l:=R.L) (s:=0) (h.t.1.sl.le k0) (by omega) hb fun w H1 k1 g1=> ?_)
 simp -implicitDefEqProofs []
 obtain⟨o,ga,gb⟩:=g1
 exact hK w H1 (k0.trans k1) ⟨o,ga,fun b e=>by have:=gb b e;omega⟩
include h21 in
theorem Pf {R:DR}{U:RU}{x:az}{ua:Option Addr}{n uc:Nat}(hn:0≤R.n∧R.n≤7)
 (hK: ∀w H',H.le H'→Gr H' H.next 7 w ((kJ R x).map fun y=>aC y (.slice ua n uc))→K w H'):
 c.C (c.F FI) [.agg (dm R U).toArray,.agg (aC x (.slice ua n uc)).toArray] H K:=by
 refine c.enter h21.Ka rfl ?_
 obtain⟨N,hN⟩: ∃N:Nat,R.n=N:=⟨R.n.toNat,by omega⟩
 have hal:kJ R x=(List.range N).map fun(i:Nat)=>{x with fr:=R.me,to:=(i:Int)}:=by unfold kJ;rw[hN];rfl
 rw[hal]at hK
 obtain⟨H0,hH0⟩: ∃X:aa,X=(H.alloc (.cells (dm R U) false)).alloc (.cells [.int .i64 x.kind,.int .i64 x.fr,.int .i64 x.to,.int .i64 x.slot,.int .i64 x.ba,.int .i64 x.bn,.slice ua n uc] false):=⟨_,rfl⟩
 have k0:H.le H0:=by rw[hH0];exact(H.aj _).alloc _
 have n0:H0.next=H.next+2:=by rw[hH0];rfl
 have g0:H0.get H.next=some (.cells (dm R U) false):=by rw[hH0];simp only[YV,YX];repeat (first|rw[if_pos trivial]|rw[if_pos (by omega)]|rw[if_neg (by omega)])
 have g1:H0.get (H.next+1)=some (.cells [.int .i64 x.kind,.int .i64 x.fr,.int .i64 x.to,.int .i64 x.slot,.int .i64 x.ba,.int .i64 x.bn,.slice ua n uc] false):=by rw[hH0];simp only[YV,YX];repeat (first|rw[if_pos trivial]|rw[if_pos (by omega)]|rw[if_neg (by omega)])
 simp -implicitDefEqProofs [oO,aC,←hH0,g0]
 refine aS c.mono (fun k T H'=> ∃j:Nat,j≤N∧k=N-j∧T 2 = .pointer (some ⟨H.next,0,none⟩)∧T 3 = .pointer (some ⟨H.next+1,0,none⟩)∧T 6 = .int .i64 j∧H0.le H'∧Gr H' H0.next 7 (T 5) (((List.range j).map fun(i:Nat)=>({x with fr:=R.me,to:=(i:Int)}:az)).map fun y=>aC y (.slice ua n uc))) N ?_ ?_
 ·refine⟨0,by omega,rfl,?_⟩
  simp -implicitDefEqProofs []
  exact⟨aa.le_refl _,Gr.nil _ _ _⟩
 ·rintro k T H' ⟨j,hj,rfl,t2,t3,t6,kH,gr⟩
  have nH:=kH.next
  have e0:=(kH.get H.next (by omega)).trans g0
  have e1:=(kH.get (H.next+1) (by omega)).trans g1
  by_cases RA:j<N
  ·have Hu:(j:Int)<(N:Int):=by omega
   have wj:IntKind.i64.wrap ((j:Int)+1)=(j:Int)+1:=wrap64 (by omega) (by omega)
   obtain⟨H4,qN⟩: ∃X:aa,X=(((H'.alloc (.cells [.int .i64 0,.int .i64 0,.int .i64 0,.int .i64 0,.int .i64 0,.int .i64 0,.slice none 0 0] false)).set H'.next (.cells [.int .i64 x.kind,.int .i64 x.fr,.int .i64 x.to,.int .i64 x.slot,.int .i64 x.ba,.int .i64 x.bn,.slice ua n uc] false)).set H'.next (.cells [.int .i64 x.kind,.int .i64 R.me,.int .i64 x.to,.int .i64 x.slot,.int .i64 x.ba,.int .i64 x.bn,.slice ua n uc] false)).set H'.next (.cells [.int .i64 x.kind,.int .i64 R.me,.int .i64 j,.int .i64 x.slot,.int .i64 x.ba,.int .i64 x.bn,.slice ua n uc] false):=⟨_,rfl⟩
   have k4:H'.le H4:=by rw[qN];exact(((H'.aj _).set (Nat.le_refl _) _).set (Nat.le_refl _) _).set (Nat.le_refl _) _
   have n4:H4.next=H'.next+1:=by rw[qN];rfl
   have b4:H4.get H'.next=some (.cells [.int .i64 x.kind,.int .i64 R.me,.int .i64 j,.int .i64 x.slot,.int .i64 x.ba,.int .i64 x.bn,.slice ua n uc] false):=by rw[qN,YW,if_pos rfl]
   obtain⟨v5,H5,e5,MC,q5,-⟩:=gr.one (H1:=H4.alloc (.cells [.int .i64 x.kind,.int .i64 R.me,.int .i64 j,.int .i64 x.slot,.int .i64 x.ba,.int .i64 x.bn,.slice ua n uc] false)) (bytes:=72) (r:=[.int .i64 x.kind,.int .i64 R.me,.int .i64 j,.int .i64 x.slot,.int .i64 x.ba,.int .i64 x.bn,.slice ua n uc]) (k4.alloc _) (by rw[YX];omega) (by omega) (by omega) (by simp;omega) (by simp;omega) rfl rfl
   have f5:=nJ H4 7 [.int .i64 x.kind,.int .i64 R.me,.int .i64 j,.int .i64 x.slot,.int .i64 x.ba,.int .i64 x.bn,.slice ua n uc] rfl (by omega)
   have hrow:((List.range j).map fun(i:Nat)=>({x with fr:=R.me,to:=(i:Int)}:az)).map (fun y=>aC y (.slice ua n uc))++[[.int .i64 x.kind,.int .i64 R.me,.int .i64 j,.int .i64 x.slot,.int .i64 x.ba,.int .i64 x.bn,.slice ua n uc]]=((List.range (j+1)).map fun(i:Nat)=>({x with fr:=R.me,to:=(i:Int)}:az)).map fun y=>aC y (.slice ua n uc):=by
    rw[List.range_succ,List.map_append,List.map_append];rfl
   rw[hrow]at MC
   have hne: ¬ H.next=H'.next:=by omega
   simp -implicitDefEqProofs [t2,t3,t6,e0,e1,hN,RA,Hu,Pd,Pe,ND,NF,cK,hne,←qN,b4,bG,f5,e5,wj]
   have kk:H0.le H5:=(((kH.trans k4).alloc (.cells [.int .i64 x.kind,.int .i64 R.me,.int .i64 j,.int .i64 x.slot,.int .i64 x.ba,.int .i64 x.bn,.slice ua n uc] false)).keep (Nat.le_refl _) |>.trans q5).le (Nat.le_refl _)
   exact⟨N-(j+1),by omega,j+1,by omega,rfl,by simp,kk,by rw[List.map_map]at MC;exact MC⟩
  ·have Hu: ¬ (j:Int)<(N:Int):=by omega
   have uA:j=N:=by omega
   obtain⟨o,ga,gb⟩:=gr
   rw[uA]at ga
   simp -implicitDefEqProofs [t2,t3,t6,e0,e1,hN,RA,Hu,Pd,Pe,cK]
   exact hK _ _ (k0.trans kH) ⟨o,ga,fun b e=>by have:=gb b e;omega⟩
theorem NG {H:aa}{b:Nat}{v:ay}(hg:H.get b=some (.cells (aG v) false))(hb:b<H.next):eP (fun z=>z=b) H 4 (.slice (some ⟨b,0,none⟩) 1 1) ([v].map aG):=by
 have QG:qJ H 4 (.slice (some ⟨b,0,none⟩) 1 1) ([v].map aG):=⟨_,1,rfl,fun _=>⟨b,0,_,false,rfl,hb,hg,fun j r hj=>by
  match j,hj with
  |0,hj=>simp at hj;subst hj;exact⟨rfl,rfl,Nat.le_refl _⟩
  |j+1,hj=>simp at hj⟩⟩
 refine⟨⟨QG,fun b' o n' cc e _=> ?_⟩,QG,_,1,rfl,.inr ⟨_,_,rfl⟩,.inl ⟨by unfold dY;omega,Nat.le_refl _⟩⟩
 simp only[Value.slice.injEq,Option.some.injEq,Addr.mk.injEq]at e
 exact e.1.1.symm
include h21 in
theorem Ma {R:DR}{U:RU}{v:ay}(hn:0≤R.n∧R.n≤7)
 (hK: ∀w u H',H.le H'→Gr H' H.next 7 w ((kJ R (cB 3 v)).map fun y=>aC y u)→eP (fun b=>H.next≤b∧b<H'.next) H' 4 u ([v].map aG)→K w H'):
 c.C (c.F zV) [.agg (dm R U).toArray,vV v] H K:=by
 refine c.enter h21.Ee rfl ?_
 obtain⟨H0,hH0⟩: ∃X:aa,X=((H.alloc (.cells (dm R U) false)).alloc (.cells [.int .i64 v.slot,.int .i64 v.a,.int .i64 v.n,.string v.val] false)).alloc (.cells [.int .i64 v.slot,.int .i64 v.a,.int .i64 v.n,.string v.val] false):=⟨_,rfl⟩
 have k0:H.le H0:=by rw[hH0];exact((H.aj _).alloc _).alloc _
 have n0:H0.next=H.next+3:=by rw[hH0];rfl
 have g2:H0.get (H.next+2)=some (.cells (aG v) false):=by rw[hH0];simp only[YV,YX];repeat (first|rw[if_pos trivial]|rw[if_pos (by omega)]|rw[if_neg (by omega)]);rfl
 have ov:=NG g2 (by omega)
 have U3:=Pf c h21 (H:=H0) (K:=K) (R:=R) (U:=U) (x:=cB 3 v) (ua:=some ⟨H.next+2,0,none⟩) (n:=1) (uc:=1) hn fun w H1 k1 g1=>by
  obtain⟨o,ga,gb⟩:=g1
  have:=k1.next
  exact hK w _ H1 (k0.trans k1) ⟨o,ga,fun b e=>by have:=gb b e;omega⟩ ((ov.le k1).weak fun b hb=>by omega)
 have qbH:=U3
 unfold cB aC at qbH
 simp -implicitDefEqProofs [lH,vV,←hH0,iq,cK]
 refine av (c.mono _ _ _ _ _ (fun r H7 hr=> ?_) qbH)
 simp -implicitDefEqProofs []
 exact hr
end
end
section
def nK (D:Nat→Prop)(H:aa)(v:Value)(l:List az):Prop:=
 ∃us:List Value,us.length=l.length∧eP D H 7 v (List.zipWith aC l us)∧∀(i:Nat) (x:az) (u:Value),l[i]? =some x→us[i]? =some u→eP D H 4 u (x.ai.map aG)
theorem nK.le {D:Nat→Prop}{H H':aa}{v:Value}{l:List az}(h:nK D H v l)(k:H.le H'):nK D H' v l:=by
 obtain⟨us,h1,h2,h3⟩:=h
 exact⟨us,h1,h2.le k,fun i x u a b=>(h3 i x u a b).le k⟩
theorem nK.weak {D D':Nat→Prop}{H:aa}{v:Value}{l:List az}(h:nK D H v l)(hd: ∀b,D b→D' b):nK D' H v l:=by
 obtain⟨us,h1,h2,h3⟩:=h
 exact⟨us,h1,h2.weak hd,fun i x u a b=>(h3 i x u a b).weak hd⟩
theorem nK.fr {B D:Nat→Prop}{H H':aa}{v:Value}{l:List az}(h:nK D H v l)(k:Fr B H H')(hd: ∀b,D b→¬ B b):nK D H' v l:=by
 obtain⟨us,h1,h2,h3⟩:=h
 exact⟨us,h1,h2.fr k hd,fun i x u a b=>(h3 i x u a b).fr k hd⟩
theorem nK.nil (D:Nat→Prop)(H:aa):nK D H (.slice none 0 0) []:=⟨[],rfl,eP.nil D H 7,by simp⟩
theorem nK.below {D:Nat→Prop}{H:aa}{v:Value}{l:List az}(h:nK D H v l):nK (fun b=>D b∧b<H.next) H v l:=by
 obtain⟨us,h1,h2,h3⟩:=h
 exact⟨us,h1,h2.below,fun i x u a b=>(h3 i x u a b).below⟩
theorem nK.len {D:Nat→Prop}{H:aa}{v:Value}{l:List az}(h:nK D H v l): ∃a cap,v = .slice a l.length cap:=by
 obtain⟨us,h1,h2,_⟩:=h
 obtain⟨a,cap,e⟩:=h2.2.len
 rw[eX h1]at e
 exact⟨a,cap,e⟩
theorem FQ (u:Value): ∀l:List az,List.zipWith aC l (List.replicate l.length u)=l.map fun y=>aC y u
 |[]=>rfl
 |x::l=>by simp only[List.length_cons,List.replicate_succ,List.zipWith_cons_cons,List.map_cons,FQ u l]
theorem nK.same {D:Nat→Prop}{H:aa}{B:Nat}{w u:Value}{l:List az}(h:Gr H B 7 w (l.map fun y=>aC y u))(hv: ∀x ∈ l,eP D H 4 u (x.ai.map aG)):nK (fun b=>D b∨(B≤b∧b<H.next)) H w l:=by
 refine⟨List.replicate l.length u,List.length_replicate,?_,fun i x u' a b=> ?_⟩
 ·rw[FQ]
  exact h.grow.QD.weak fun b hb=>.inr hb
 ·rw[List.getElem?_replicate]at b
  split at b
  ·simp only[Option.some.injEq]at b
   subst b
   exact(hv x (List.mem_of_getElem? a)).weak fun b hb=>.inl hb
  ·simp at b
theorem xU (R:DR)(x:az): ∀y ∈ kJ R x,y.ai=x.ai:=by
 intro y hy
 unfold kJ at hy
 obtain⟨i,_,rfl⟩:=List.mem_map.1 hy
 rfl
section
variable (c:Ctx) (mM:dw c) (hQ:bN c) (h16:dS c) (En:eF c) (h19:dU c) (h20:eG c) (h21:fM c) {H:aa} {K:Value→aa→Prop} {D:Nat→Prop}
include mM h19 in
theorem U5 {P:DP}{a:Option Addr}{k cp:Nat}{x n:Int}(hK: ∀H',H.le H'→K (.tuple #[.agg (fJ (P.step x n).1 (.slice a k cp)).toArray,.bool (P.step x n).2]) H'):
 c.C (c.F sO) [.agg (fJ P (.slice a k cp)).toArray,vB x n] H K:=Xe c mM h19 hK
theorem Hy (P:DP)(x n:Int):(P.step x n).1.L=P.L:=by unfold DP.step;split <;> rfl
include mM h19 h21 in
theorem Q6 {R:DR}{U:RU}{x n:Int}(h:qG D H R U)(hK: ∀H',H.le H'→qG D H' (R.step x n) U→K (.agg (dm (R.step x n) U).toArray) H'):
 c.C (c.F Ed) [.agg (dm R U).toArray,vB x n] H K:=by
 refine c.enter h21.Hl rfl ?_
 obtain⟨H0,hH0⟩: ∃X:aa,X=((H.alloc (.cells (dm R U) false)).alloc (.cells [.int .i64 x,.int .i64 n] false)).alloc (.cells [.int .i64 0,.int .i64 0,.int .i64 0,.int .i64 0,.int .i64 0,.slice none 0 0,.int .i64 0,.int .i64 0,.int .i64 0,.int .i64 0,.int .i64 0,.int .i64 0,.bool false,.bool false,.bool false,.bool false,.bool false,.bool false,.bool false,.bool false,.bool false,.bool false,.slice none 0 0,.int .i64 0,.int .i64 0,.slice none 0 0,.slice none 0 0] false):=⟨_,rfl⟩
 have k0:H.le H0:=by rw[hH0];exact((H.aj _).alloc _).alloc _
 have n0:H0.next=H.next+3:=by rw[hH0];rfl
 have g0:H0.get H.next=some (.cells (dm R U) false):=by rw[hH0];simp only[YV,YW,YX,YY];repeat (first|rw[if_pos trivial]|rw[if_pos (by omega)]|rw[if_neg (by omega)])
 have g1:H0.get (H.next+1)=some (.cells [.int .i64 x,.int .i64 n] false):=by rw[hH0];simp only[YV,YW,YX,YY];repeat (first|rw[if_pos trivial]|rw[if_pos (by omega)]|rw[if_neg (by omega)])
 have g2:H0.get (H.next+2)=some (.cells [.int .i64 0,.int .i64 0,.int .i64 0,.int .i64 0,.int .i64 0,.slice none 0 0,.int .i64 0,.int .i64 0,.int .i64 0,.int .i64 0,.int .i64 0,.int .i64 0,.bool false,.bool false,.bool false,.bool false,.bool false,.bool false,.bool false,.bool false,.bool false,.bool false,.slice none 0 0,.int .i64 0,.int .i64 0,.slice none 0 0,.slice none 0 0] false):=by rw[hH0];simp only[YV,YW,YX,YY];repeat (first|rw[if_pos trivial]|rw[if_pos (by omega)]|rw[if_neg (by omega)])
 obtain⟨P',hP'⟩: ∃P',P'=(R.P.step x n).1:=⟨_,rfl⟩
 have hL:P'.L.length=R.P.L.length:=by rw[hP',Hy]
 simp -implicitDefEqProofs [nD,vB,←hH0,g0,g1,rT6,cK,eT]
 refine av (U5 c mM h19 fun H1 k1=> ?_)
 rw[←hP']
 have n1:=k1.next
 have e0:=(k1.get H.next (by omega)).trans g0
 have e2:=(k1.get (H.next+2) (by omega)).trans g2
 obtain⟨H2,hH2⟩: ∃X:aa,X=(H1.alloc (.cells [.int .i64 0,.int .i64 0,.int .i64 0,.int .i64 0,.int .i64 0,.int .i64 0,.bool false,.bool false,.bool false,.bool false,.bool false,.bool false,.bool false,.bool false,.bool false,.bool false,.slice none 0 0] false)).set H1.next (.cells (fJ P' (.slice U.p.1 R.P.L.length U.p.2)) false):=⟨_,rfl⟩
 have k2:H1.le H2:=by rw[hH2];exact(H1.aj _).set (Nat.le_refl _) _
 have b2:H2.get H1.next=some (.cells (fJ P' (.slice U.p.1 R.P.L.length U.p.2)) false):=by rw[hH2,YW,if_pos rfl]
 have f0:=(k2.get H.next (by omega)).trans e0
 have f2:=(k2.get (H.next+2) (by omega)).trans e2
 have rs:=rS6 (R:=R) (U:=U) (P:=P') (p:=U.p)
 rw[hL]at rs
 have hres:({R with P:=P'}:DR)=R.step x n:=by rw[hP'];rfl
 have hU:({U with p:=U.p}:RU)=U:=rfl
 rw[hres,hU]at rs
 have ne: ¬ H.next+1+1=H.next:=by omega
 simp -implicitDefEqProofs [eT,nN,←hH2,b2,f0,f2,qD,cK,rs,iY,iq,ne]
 have kk:H.le ((H2.set H.next (.cells (dm (R.step x n) U) false)).set (H.next+2) (.cells (dm (R.step x n) U) false)):=(((k0.trans k1).trans k2).set (Nat.le_refl _) _).set (by omega) _
 refine hK _ kk ?_
 have hd:=h.le kk
 refine⟨hd.a,?_,hd.t,hd.v⟩
 have e:(R.step x n).P.L=R.P.L:=Hy R.P x n
 rw[e]
 exact hd.p
include h20 h21 in
theorem Zz {R:DR}{U:RU}{i:Int}(h:qG D H R U)(hl:R.L.told.length≤900000)(hb:0≤R.L.base∧R.L.base≤1024)
 (hK: ∀w H',H.le H'→nK (fun b=>H.next≤b∧b<H'.next) H' w (R.ask i)→K w H'):c.C (c.F FH) [.agg (dm R U).toArray,.int .i64 i] H K:=by
 refine c.enter h21.I9 rfl ?_
 unfold DR.ask at hK
 obtain⟨H0,hH0⟩: ∃X:aa,X=H.alloc (.cells (dm R U) false):=⟨_,rfl⟩
 have k0:H.le H0:=by rw[hH0];exact H.aj _
 have n0:H0.next=H.next+1:=by rw[hH0];rfl
 have g0:H0.get H.next=some (.cells (dm R U) false):=by rw[hH0];simp only[YV,YW,YX,YY];repeat (first|rw[if_pos trivial]|rw[if_pos (by omega)]|rw[if_neg (by omega)])
 by_cases c1:i<0
 ·rw[if_pos (.inl c1)]at hK
  simp -implicitDefEqProofs [iL,←hH0,c1,g0]
  exact hK _ _ k0 (nK.nil _ _)
 by_cases c2:R.n≤i
 ·rw[if_pos (.inr c2)]at hK
  simp -implicitDefEqProofs [iL,←hH0,c1,c2,g0,Pd,Pe,cK]
  exact hK _ _ k0 (nK.nil _ _)
 rw[if_neg (by omega)]at hK
 simp -implicitDefEqProofs [iL,←hH0,c1,c2,g0,Pd,Pe,cK,ND,NF,U4]
 refine aI c.mono (L8 c h20 (l:=R.L) (h.t.1.sl.le k0) (by omega) hb fun H1 k1=> ?_)
 have n1:=k1.next
 have e0:=(k1.get H.next (by omega)).trans g0
 simp -implicitDefEqProofs [e0,ND,NF,cK]
 have kk:H.le (H1.alloc (.cells [.int .i64 5,.int .i64 R.me,.int .i64 i,.int .i64 (kV R.L),.int .i64 0,.int .i64 0,.slice none 0 0] false)):=(k0.trans k1).alloc _
 refine hK _ _ kk ⟨[.slice none 0 0],rfl,?_,?_⟩
 ·have QG:qJ (H1.alloc (.cells [.int .i64 5,.int .i64 R.me,.int .i64 i,.int .i64 (kV R.L),.int .i64 0,.int .i64 0,.slice none 0 0] false)) 7 (.slice (some ⟨H1.next,0,none⟩) 1 1) [[.int .i64 5,.int .i64 R.me,.int .i64 i,.int .i64 (kV R.L),.int .i64 0,.int .i64 0,.slice none 0 0]]:=
   ⟨_,1,rfl,fun _=>⟨H1.next,0,_,false,rfl,by rw[YX];omega,by rw[YV,if_pos rfl],fun j r hj=>by
     match j,hj with
     |0,hj=>simp at hj;subst hj;exact⟨rfl,rfl,Nat.le_refl _⟩
     |j+1,hj=>simp at hj⟩⟩
  refine⟨⟨QG,fun b' o n' cc e _=> ?_⟩,QG,_,1,rfl,.inr ⟨_,_,rfl⟩,.inl ⟨by unfold dY;omega,Nat.le_refl _⟩⟩
  simp only[Value.slice.injEq,Option.some.injEq,Addr.mk.injEq]at e
  rw[YX]
  omega
 ·intro j x u a b
  match j,a,b with
  |0,a,b=>simp at a b;subst a;subst b;exact eP.nil _ _ _
  |j+1,a,b=>simp at a
include hQ h19 h20 h21 in
theorem ZA {n me:Int}(hK: ∀b H',H.le H'→K (.tuple #[.agg (dm (DR.new n me) ⟨(none,0),(none,0),(none,0),(none,0)⟩).toArray,.bool b]) H'):c.C (c.F FD) [.int .i64 n,.int .i64 me] H K:=by
 refine c.enter h21.I7 rfl ?_
 obtain⟨H0,hH0⟩: ∃X:aa,X=H.alloc (.cells [.int .i64 0,.int .i64 0,.int .i64 0,.int .i64 0,.int .i64 0,.slice none 0 0,.int .i64 0,.int .i64 0,.int .i64 0,.int .i64 0,.int .i64 0,.int .i64 0,.bool false,.bool false,.bool false,.bool false,.bool false,.bool false,.bool false,.bool false,.bool false,.bool false,.slice none 0 0,.int .i64 0,.int .i64 0,.slice none 0 0,.slice none 0 0] false):=⟨_,rfl⟩
 have k0:H.le H0:=by rw[hH0];exact H.aj _
 have n0:H0.next=H.next+1:=by rw[hH0];rfl
 have g0:H0.get H.next=some (.cells [.int .i64 0,.int .i64 0,.int .i64 0,.int .i64 0,.int .i64 0,.slice none 0 0,.int .i64 0,.int .i64 0,.int .i64 0,.int .i64 0,.int .i64 0,.int .i64 0,.bool false,.bool false,.bool false,.bool false,.bool false,.bool false,.bool false,.bool false,.bool false,.bool false,.slice none 0 0,.int .i64 0,.int .i64 0,.slice none 0 0,.slice none 0 0] false):=by rw[hH0];simp only[YV,YW,YX,YY];repeat (first|rw[if_pos trivial]|rw[if_pos (by omega)]|rw[if_neg (by omega)])
 simp -implicitDefEqProofs [oM,←hH0]
 refine av (NB c hQ h19 fun b1 H1 k1=> ?_)
 have n1:=k1.next
 obtain⟨H2,hH2⟩: ∃X:aa,X=(H1.alloc (.cells [.int .i64 0,.int .i64 0,.int .i64 0,.int .i64 0,.int .i64 0,.int .i64 0,.bool false,.bool false,.bool false,.bool false,.bool false,.bool false,.bool false,.bool false,.bool false,.bool false,.slice none 0 0] false)).set H1.next (.cells (fJ (DP.new n me) (.slice none 0 0)) false):=⟨_,rfl⟩
 have k2:H1.le H2:=by rw[hH2];exact(H1.aj _).set (Nat.le_refl _) _
 have n2:H2.next=H1.next+1:=by rw[hH2];rfl
 have b2:H2.get H1.next=some (.cells (fJ (DP.new n me) (.slice none 0 0)) false):=by rw[hH2,YW,if_pos rfl]
 simp only[fJ,DP.new]at hH2 b2
 simp -implicitDefEqProofs [fJ,DP.new,←hH2]
 refine av (NC c hQ h20 fun b3 H3 k3=> ?_)
 have n3:=k3.next
 have b3':=(k3.get H1.next (by omega)).trans b2
 have e0:=((k3.get H.next (by omega)).trans ((k2.get H.next (by omega)).trans (k1.get H.next (by omega)))).trans g0
 have ne1: ¬ H1.next=H3.next:=by omega
 have ME: ¬ H.next=H3.next:=by omega
 cases b1 with
 |true=>
  simp -implicitDefEqProofs [Gv,b3',e0,ne1,ME]
  exact hK _ _ (by(repeat' first|exact aa.le_refl _|assumption|apply aa.le.alloc|(refine aa.le.set ?_ (by(try simp only[YX,YY]);omega) _)|(refine aa.le.trans ?_ (by assumption))))
 |false=>
  simp -implicitDefEqProofs [Gv,b3',e0,ne1,ME]
  exact hK _ _ (by(repeat' first|exact aa.le_refl _|assumption|apply aa.le.alloc|(refine aa.le.set ?_ (by(try simp only[YX,YY]);omega) _)|(refine aa.le.trans ?_ (by assumption))))
end
end
section
theorem qG.Q7 {D:Nat→Prop}{H:aa}{R:DR}{U:RU}(h:qG D H R U){P':DP}(e:P'.L=R.P.L):qG D H {R with P:=P'} U:=by
 refine⟨h.a,?_,h.t,h.v⟩
 show eP D H 4 (.slice U.p.1 P'.L.length U.p.2) (P'.L.map aG)
 rw[e];exact h.p
theorem qG.SX {D:Nat→Prop}{H:aa}{R:DR}{U:RU}(h:qG D H R U){A':Acc}(e:A'.L=R.A.L):qG D H {R with A:=A'} U:=by
 refine⟨?_,h.p,h.t,h.v⟩
 show eP D H 4 (.slice U.a.1 A'.L.length U.a.2) (A'.L.map aG)
 rw[e];exact h.a
theorem NH (A:Acc)(x n s:Int):(A.promise x n s).1.L=A.L:=by unfold Acc.promise;split <;> rfl
section
variable (c:Ctx) (mM:dw c) (hQ:bN c) (h16:dS c) (En:eF c) (h19:dU c) (h20:eG c) (h21:fM c) {H:aa} {K:Value→aa→Prop} {D:Nat→Prop}
include hQ h19 h20 h21 in
theorem U6 {R:DR}{U:RU}(h:qG D H R U)(hK: ∀U' H',H.le H'→qG D H' R.gM U'→K (.agg (dm R.gM U').toArray) H'):c.C (c.F Cm) [.agg (dm R U).toArray] H K:=by
 refine c.enter h21.FJ rfl ?_
 obtain⟨H0,hH0⟩: ∃X:aa,X=(H.alloc (.cells (dm R U) false)).alloc (.cells [.int .i64 0,.int .i64 0,.int .i64 0,.int .i64 0,.int .i64 0,.slice none 0 0,.int .i64 0,.int .i64 0,.int .i64 0,.int .i64 0,.int .i64 0,.int .i64 0,.bool false,.bool false,.bool false,.bool false,.bool false,.bool false,.bool false,.bool false,.bool false,.bool false,.slice none 0 0,.int .i64 0,.int .i64 0,.slice none 0 0,.slice none 0 0] false):=⟨_,rfl⟩
 have k0:H.le H0:=by rw[hH0];exact(H.aj _).alloc _
 have n0:H0.next=H.next+2:=by rw[hH0];rfl
 have g0:H0.get H.next=some (.cells (dm R U) false):=by rw[hH0];simp only[YV,YW,YX,YY];repeat (first|rw[if_pos trivial]|rw[if_pos (by omega)]|rw[if_neg (by omega)])
 have g1:H0.get (H.next+1)=some (.cells [.int .i64 0,.int .i64 0,.int .i64 0,.int .i64 0,.int .i64 0,.slice none 0 0,.int .i64 0,.int .i64 0,.int .i64 0,.int .i64 0,.int .i64 0,.int .i64 0,.bool false,.bool false,.bool false,.bool false,.bool false,.bool false,.bool false,.bool false,.bool false,.bool false,.slice none 0 0,.int .i64 0,.int .i64 0,.slice none 0 0,.slice none 0 0] false):=by rw[hH0];simp only[YV,YW,YX,YY];repeat (first|rw[if_pos trivial]|rw[if_pos (by omega)]|rw[if_neg (by omega)])
 simp -implicitDefEqProofs [mq,←hH0,g0,Pd,Pe,ND,NF,cK]
 refine av (NB c hQ h19 fun b1 H1 k1=> ?_)
 have n1:=k1.next
 obtain⟨H2,hH2⟩: ∃X:aa,X=(H1.alloc (.cells [.int .i64 0,.int .i64 0,.int .i64 0,.int .i64 0,.int .i64 0,.int .i64 0,.bool false,.bool false,.bool false,.bool false,.bool false,.bool false,.bool false,.bool false,.bool false,.bool false,.slice none 0 0] false)).set H1.next (.cells (fJ (DP.new R.n R.me) (.slice none 0 0)) false):=⟨_,rfl⟩
 have k2:H1.le H2:=by rw[hH2];exact(H1.aj _).set (Nat.le_refl _) _
 have n2:H2.next=H1.next+1:=by rw[hH2];rfl
 have b2:H2.get H1.next=some (.cells (fJ (DP.new R.n R.me) (.slice none 0 0)) false):=by rw[hH2,YW,if_pos rfl]
 simp only[fJ,DP.new]at hH2 b2
 have UH:=k1.trans k2
 have f0:=(UH.get H.next (by omega)).trans g0
 simp -implicitDefEqProofs [fJ,DP.new,←hH2,f0,Pd,Pe,cK]
 refine av (NC c hQ h20 fun b3 H3 k3=> ?_)
 have n3:=k3.next
 have b3':=(k3.get H1.next (by omega)).trans b2
 have e0:=(k3.get H.next (by omega)).trans f0
 have e1:=((UH.trans k3).get (H.next+1) (by omega)).trans g1
 have ne1: ¬ H1.next=H3.next:=by omega
 have ME: ¬ H.next=H3.next:=by omega
 have U7: ¬ H.next+1=H3.next:=by omega
 have XL: ¬ H.next+1=H.next:=by omega
 have XM: ¬ H3.next=H.next:=by omega
 have rs:=rS6 (R:=R) (U:=U) (P:=DP.new R.n R.me) (p:=(none,0))
 simp only[fJ,DP.new,List.cons_append,List.nil_append,List.length_nil]at rs
 obtain⟨R1,ve⟩: ∃R1:DR,R1={R with P:=DP.new R.n R.me}:=⟨_,rfl⟩
 obtain⟨U1,MK⟩: ∃U1:RU,U1={U with p:=(none,0)}:=⟨_,rfl⟩
 have qbI:=ve
 simp only[DP.new]at qbI
 rw[←qbI,←MK]at rs
 obtain⟨U2,Vn⟩: ∃U2:RU,U2={U1 with t:=(none,0),v:=(none,0)}:=⟨_,rfl⟩
 have ML:=qaV (R:=R1) (U:=U1) (l:=⟨R.n,R.A.base,[],[]⟩) (t:=(none,0)) (v:=(none,0))
 rw[←Vn]at ML
 have hcr:({R1 with L:=⟨R.n,R.A.base,[],[]⟩}:DR)=R.gM:=by rw[ve];rfl
 rw[hcr]at ML
 simp only[List.length_nil]at ML
 simp -implicitDefEqProofs [Gv,b3',e0,e1,ne1,ME,U7,XL,XM,rP4,rQ4,cK,rs,ML,iY,iq]
 refine hK U2 _ (by(repeat' first|exact aa.le_refl _|assumption|apply aa.le.alloc|(refine aa.le.set ?_ (by(try simp only[YX,YY]);omega) _)|(refine aa.le.trans ?_ (by assumption)))) ⟨?_,?_,?_,?_⟩
 ·rw[Vn,MK];exact h.a.le (by(repeat' first|exact aa.le_refl _|assumption|apply aa.le.alloc|(refine aa.le.set ?_ (by(try simp only[YX,YY]);omega) _)|(refine aa.le.trans ?_ (by assumption))))
 ·rw[Vn,MK];exact eP.nil _ _ _
 ·rw[Vn,MK];exact eP.nil _ _ _
 ·rw[Vn,MK];exact eP.nil _ _ _
include h19 in
theorem Pg {P:DP}{a:Option Addr}{k cp:Nat}{s:ByteArray}(hn:P.next≤1024)(hn0:0≤P.next)(hK: ∀H',H.le H'→K (.tuple #[.agg (fJ (P.ax s).1 (.slice a k cp)).toArray,vV (P.ax s).2.1,.int .i64 (P.ax s).2.2]) H'):
 c.C (c.F pE) [.agg (fJ P (.slice a k cp)).toArray,.string s] H K:=QX c h19 hn hn0 hK
theorem Hz (P:DP)(s:ByteArray):(P.ax s).1.L=P.L:=by unfold DP.ax;split;rfl;split;rfl;split <;> rfl
include h19 h21 in
theorem Q8 {R:DR}{U:RU}{s:ByteArray}(h:qG D H R U)(XE:0≤R.n∧R.n≤7)(hn:R.P.next≤1024)(hn0:0≤R.P.next)
 (hK: ∀w H',H.le H'→qG D H' (R.ax s).1 U→nK (fun b=>H.next≤b∧b<H'.next) H' w (R.ax s).2.1→K (.tuple #[.agg (dm (R.ax s).1 U).toArray,w,.int .i64 (R.ax s).2.2]) H'):
 c.C (c.F yH) [.agg (dm R U).toArray,.string s] H K:=by
 refine c.enter h21.Cn rfl ?_
 unfold DR.ax at hK
 obtain⟨H0,hH0⟩: ∃X:aa,X=(H.alloc (.cells (dm R U) false)).alloc (.cells [.int .i64 0,.int .i64 0,.int .i64 0,.int .i64 0,.int .i64 0,.slice none 0 0,.int .i64 0,.int .i64 0,.int .i64 0,.int .i64 0,.int .i64 0,.int .i64 0,.bool false,.bool false,.bool false,.bool false,.bool false,.bool false,.bool false,.bool false,.bool false,.bool false,.slice none 0 0,.int .i64 0,.int .i64 0,.slice none 0 0,.slice none 0 0] false):=⟨_,rfl⟩
 have k0:H.le H0:=by rw[hH0];exact(H.aj _).alloc _
 have n0:H0.next=H.next+2:=by rw[hH0];rfl
 have g0:H0.get H.next=some (.cells (dm R U) false):=by rw[hH0];simp only[YV,YW,YX,YY];repeat (first|rw[if_pos trivial]|rw[if_pos (by omega)]|rw[if_neg (by omega)])
 have g1:H0.get (H.next+1)=some (.cells [.int .i64 0,.int .i64 0,.int .i64 0,.int .i64 0,.int .i64 0,.slice none 0 0,.int .i64 0,.int .i64 0,.int .i64 0,.int .i64 0,.int .i64 0,.int .i64 0,.bool false,.bool false,.bool false,.bool false,.bool false,.bool false,.bool false,.bool false,.bool false,.bool false,.slice none 0 0,.int .i64 0,.int .i64 0,.slice none 0 0,.slice none 0 0] false):=by rw[hH0];simp only[YV,YW,YX,YY];repeat (first|rw[if_pos trivial]|rw[if_pos (by omega)]|rw[if_neg (by omega)])
 have hL:(R.P.ax s).1.L.length=R.P.L.length:=by rw[Hz]
 have hL':(R.P.ax s).1.L=R.P.L:=Hz R.P s
 simp -implicitDefEqProofs [ku,←hH0,g0,rT6,cK,eT]
 refine av (Pg c h19 hn hn0 fun H1 k1=> ?_)
 have n1:=k1.next
 obtain⟨P',hP'⟩: ∃P',P'=(R.P.ax s).1:=⟨_,rfl⟩
 obtain⟨v,hv⟩: ∃v,v=(R.P.ax s).2.1:=⟨_,rfl⟩
 obtain⟨e,he⟩: ∃e,e=(R.P.ax s).2.2:=⟨_,rfl⟩
 rw[←hP',←hv,←he]
 rw[←hP']at hL hL'
 rw[←hP',←hv,←he]at hK
 obtain⟨H2,hH2⟩: ∃X:aa,X=(((H1.alloc (.cells [.int .i64 0,.int .i64 0,.int .i64 0,.int .i64 0,.int .i64 0,.int .i64 0,.bool false,.bool false,.bool false,.bool false,.bool false,.bool false,.bool false,.bool false,.bool false,.bool false,.slice none 0 0] false)).alloc (.cells [.int .i64 0,.int .i64 0,.int .i64 0,.string ⟨#[]⟩] false)).set H1.next (.cells (fJ P' (.slice U.p.1 R.P.L.length U.p.2)) false)).set (H1.next+1) (.cells [.int .i64 v.slot,.int .i64 v.a,.int .i64 v.n,.string v.val] false):=⟨_,rfl⟩
 have k2:H1.le H2:=by rw[hH2];exact(((H1.aj _).alloc _).set (Nat.le_refl _) _).set (by omega) _
 have n2:H2.next=H1.next+2:=by rw[hH2];rfl
 have b2:H2.get H1.next=some (.cells (fJ P' (.slice U.p.1 R.P.L.length U.p.2)) false):=by rw[hH2];simp only[YV,YW,YX,YY];repeat (first|rw[if_pos trivial]|rw[if_pos (by omega)]|rw[if_neg (by omega)])
 have b3:H2.get (H1.next+1)=some (.cells [.int .i64 v.slot,.int .i64 v.a,.int .i64 v.n,.string v.val] false):=by rw[hH2];simp only[YV,YW,YX,YY];repeat (first|rw[if_pos trivial]|rw[if_pos (by omega)]|rw[if_neg (by omega)])
 have f0:=((k1.trans k2).get H.next (by omega)).trans g0
 have f1:=((k1.trans k2).get (H.next+1) (by omega)).trans g1
 have ne0: ¬ H1.next=H1.next+1:=by omega
 have ne1: ¬ H.next+1=H.next:=by omega
 by_cases c1:e=0
 ·rw[if_neg (by simpa using c1)]at hK
  have rs:=rS6 (R:=R) (U:=U) (P:=P') (p:=U.p)
  rw[hL]at rs
  have hU:({U with p:=U.p}:RU)=U:=rfl
  rw[hU]at rs
  obtain⟨R1,ve⟩: ∃R1:DR,R1={R with P:=P'}:=⟨_,rfl⟩
  rw[←ve]at rs hK
  obtain⟨H3,hH3⟩: ∃X:aa,X=H2.set H.next (.cells (dm R1 U) false):=⟨_,rfl⟩
  have k3:H.le H3:=by rw[hH3];exact((k0.trans k1).trans k2).set (Nat.le_refl _) _
  have n3:H3.next=H2.next:=by rw[hH3];rfl
  have o0:H3.get H.next=some (.cells (dm R1 U) false):=by rw[hH3];simp only[YV,YW,YX,YY];repeat (first|rw[if_pos trivial]|rw[if_pos (by omega)]|rw[if_neg (by omega)])
  have o1:H3.get (H.next+1)=some (.cells [.int .i64 0,.int .i64 0,.int .i64 0,.int .i64 0,.int .i64 0,.slice none 0 0,.int .i64 0,.int .i64 0,.int .i64 0,.int .i64 0,.int .i64 0,.int .i64 0,.bool false,.bool false,.bool false,.bool false,.bool false,.bool false,.bool false,.bool false,.bool false,.bool false,.slice none 0 0,.int .i64 0,.int .i64 0,.slice none 0 0,.slice none 0 0] false):=by rw[hH3,YW,if_neg (by omega)];exact f1
  have o3:H3.get (H1.next+1)=some (.cells [.int .i64 v.slot,.int .i64 v.a,.int .i64 v.n,.string v.val] false):=by rw[hH3,YW,if_neg (by omega)];exact b3
  simp -implicitDefEqProofs [vV,eT,nN,Kw,←hH2,c1,b2,b3,f0,qD,cK,rs,←hH3,o0,o3,iq]
  refine aI c.mono (Ma c h21 (R:=R1) (U:=U) (v:=v) (by rw[ve];exact XE) fun w u H4 k4 gw gu=> ?_)
  have n4:=k4.next
  have e0:=(k4.get H.next (by omega)).trans o0
  have e1:=(k4.get (H.next+1) (by omega)).trans o1
  have hal:kJ R1 (cB 3 v)=kJ R (cB 3 v):=by rw[ve];rfl
  have hns:=nK.same gw (fun x hx=>by rw[xU R1 (cB 3 v) x hx];exact gu)
  rw[hal]at hns
  simp -implicitDefEqProofs [e0,e1,cK,iq,iY]
  have kk:H.le (H4.set (H.next+1) (.cells (dm R1 U) false)):=(k3.trans k4).set (by omega) _
  refine hK w _ kk ?_ ?_
  ·have hd:=(h.le kk).Q7 hL'
   rw[←ve]at hd
   exact hd
  ·refine(hns.fr ((Fr.refl (fun b=>b=H.next+1) H4).set (.inl rfl) _) (fun b hb hn=> ?_)).weak fun b hb=> ?_
   ·rcases hb with hb|hb <;> omega
   ·have:(H4.set (H.next+1) (.cells (dm R1 U) false)).next=H4.next:=rfl
    rcases hb with hb|hb <;> omega
 ·rw[if_pos (by simpa using c1)]at hK
  simp -implicitDefEqProofs [vV,eT,nN,Kw,←hH2,c1,f0,f1,cK,iq,iY,ne0]
  have kk:H.le (H2.set (H.next+1) (.cells (dm R U) false)):=((k0.trans k1).trans k2).set (by omega) _
  exact hK _ _ kk (h.le kk) (nK.nil _ _)
end
end
section
section
variable (c:Ctx) (mM:dw c) (hQ:bN c) (h16:dS c) (En:eF c) (h19:dU c) (h20:eG c) (h21:fM c) {H:aa} {K:Value→aa→Prop} {D:Nat→Prop}
include mM h16 h19 in
theorem U8 {P:DP}{a:Option Addr}{k cp:Nat}{x n fr:Int}(hK: ∀u' H',H.le H'→((P.lead x n fr).2.2≠0→u' = .slice a k cp)→((P.lead x n fr).2.2=0→u' = .slice none 0 0)→K (.tuple #[.agg (fJ (P.lead x n fr).1 u').toArray,vB (P.lead x n fr).2.1.1 (P.lead x n fr).2.1.2,.int .i64 (P.lead x n fr).2.2]) H'):
 c.C (c.F sM) [.agg (fJ P (.slice a k cp)).toArray,vB x n,.int .i64 fr] H K:=Xd c mM h16 h19 hK
theorem Xm (P:DP)(x n fr:Int)(h:(P.lead x n fr).2.2=0):(P.lead x n fr).1.L=[]:=by
 unfold DP.lead at h ⊢
 split
 ·rename_i h1;rw[if_pos h1]at h;simp at h
 ·rename_i h1;rw[if_neg h1]at h
  split
  ·rename_i h2;rw[if_pos h2]at h;simp at h
  ·rfl
include mM h16 En h19 h20 h21 in
theorem Xn {R:DR}{U:RU}(h:qG D H R U)(XE:0≤R.n∧R.n≤7)(hl:R.L.told.length≤900000)(hb:0≤R.L.base∧R.L.base≤1024)(hA:R.A.L.length≤50000)
 (hK: ∀U' w H',H.le H'→qG D H' R.lead.1 U'→nK (fun b=>H.next≤b∧b<H'.next) H' w R.lead.2→K (.tuple #[.agg (dm R.lead.1 U').toArray,w]) H'):
 c.C (c.F Eb) [.agg (dm R U).toArray] H K:=by
 refine c.enter h21.Hf rfl ?_
 unfold DR.lead at hK
 obtain⟨H0,hH0⟩: ∃X:aa,X=(H.alloc (.cells (dm R U) false)).alloc (.cells [.int .i64 0,.int .i64 0,.int .i64 0,.int .i64 0,.int .i64 0,.slice none 0 0,.int .i64 0,.int .i64 0,.int .i64 0,.int .i64 0,.int .i64 0,.int .i64 0,.bool false,.bool false,.bool false,.bool false,.bool false,.bool false,.bool false,.bool false,.bool false,.bool false,.slice none 0 0,.int .i64 0,.int .i64 0,.slice none 0 0,.slice none 0 0] false):=⟨_,rfl⟩
 have k0:H.le H0:=by rw[hH0];exact(H.aj _).alloc _
 have n0:H0.next=H.next+2:=by rw[hH0];rfl
 have g0:H0.get H.next=some (.cells (dm R U) false):=by rw[hH0];simp only[YV,YW,YX,YY];repeat (first|rw[if_pos trivial]|rw[if_pos (by omega)]|rw[if_neg (by omega)])
 have g1:H0.get (H.next+1)=some (.cells [.int .i64 0,.int .i64 0,.int .i64 0,.int .i64 0,.int .i64 0,.slice none 0 0,.int .i64 0,.int .i64 0,.int .i64 0,.int .i64 0,.int .i64 0,.int .i64 0,.bool false,.bool false,.bool false,.bool false,.bool false,.bool false,.bool false,.bool false,.bool false,.bool false,.slice none 0 0,.int .i64 0,.int .i64 0,.slice none 0 0,.slice none 0 0] false):=by rw[hH0];simp only[YV,YW,YX,YY];repeat (first|rw[if_pos trivial]|rw[if_pos (by omega)]|rw[if_neg (by omega)])
 simp -implicitDefEqProofs [nC,←hH0,g0,U4,cK]
 refine av (L8 c h20 (l:=R.L) (h.t.1.sl.le k0) (by omega) hb fun H1 k1=> ?_)
 have n1:=k1.next
 have e0:=(k1.get H.next (by omega)).trans g0
 have e1:=(k1.get (H.next+1) (by omega)).trans g1
 obtain⟨s,hs⟩: ∃s,s=kV R.L:=⟨_,rfl⟩
 rw[←hs]at hK ⊢
 simp -implicitDefEqProofs [e0,rT6,rT2,cK,eT]
 refine av (U8 c mM h16 h19 (x:=R.A.pa) (n:=R.A.pn) (fr:=s) fun u' H2 k2 hu1 hu2=> ?_)
 have n2:=k2.next
 have e0:=(k2.get H.next (by omega)).trans e0
 have e1:=(k2.get (H.next+1) (by omega)).trans e1
 have hL0:=Xm R.P R.A.pa R.A.pn s
 obtain⟨P',hP'⟩: ∃P',P'=(R.P.lead R.A.pa R.A.pn s).1:=⟨_,rfl⟩
 obtain⟨b,hbb⟩: ∃b,b=(R.P.lead R.A.pa R.A.pn s).2.1:=⟨_,rfl⟩
 obtain⟨e,he⟩: ∃e,e=(R.P.lead R.A.pa R.A.pn s).2.2:=⟨_,rfl⟩
 rw[←hP',←hbb,←he]
 rw[←hP',←hbb,←he]at hK
 rw[←he]at hu1 hu2
 rw[←he,←hP']at hL0
 obtain⟨b1,b2⟩:=b
 have ne0: ¬ H2.next=H2.next+1:=by omega
 have UH:=(k0.trans k1).trans k2
 by_cases c1:e=0
 ·rw[if_neg (by simpa using c1)]at hK
  have hu:=hu2 c1
  have hL:=hL0 c1
  subst hu
  obtain⟨H3,hH3⟩: ∃X:aa,X=(((H2.alloc (.cells [.int .i64 0,.int .i64 0,.int .i64 0,.int .i64 0,.int .i64 0,.int .i64 0,.bool false,.bool false,.bool false,.bool false,.bool false,.bool false,.bool false,.bool false,.bool false,.bool false,.slice none 0 0] false)).alloc (.cells [.int .i64 0,.int .i64 0] false)).set H2.next (.cells (fJ P' (.slice none 0 0)) false)).set (H2.next+1) (.cells [.int .i64 b1,.int .i64 b2] false):=⟨_,rfl⟩
  have k3:H2.le H3:=by rw[hH3];exact(((H2.aj _).alloc _).set (Nat.le_refl _) _).set (by omega) _
  have n3:H3.next=H2.next+2:=by rw[hH3];rfl
  have b2':H3.get H2.next=some (.cells (fJ P' (.slice none 0 0)) false):=by rw[hH3];simp only[YV,YW,YX,YY];repeat (first|rw[if_pos trivial]|rw[if_pos (by omega)]|rw[if_neg (by omega)])
  have b3':H3.get (H2.next+1)=some (.cells [.int .i64 b1,.int .i64 b2] false):=by rw[hH3];simp only[YV,YW,YX,YY];repeat (first|rw[if_pos trivial]|rw[if_pos (by omega)]|rw[if_neg (by omega)])
  have f0:=(k3.get H.next (by omega)).trans e0
  have f1:=(k3.get (H.next+1) (by omega)).trans e1
  have rs:=rS6 (R:=R) (U:=U) (P:=P') (p:=(none,0))
  rw[hL]at rs
  simp only[List.length_nil]at rs
  obtain⟨R1,ve⟩: ∃R1:DR,R1={R with P:=P'}:=⟨_,rfl⟩
  obtain⟨U1,MK⟩: ∃U1:RU,U1={U with p:=(none,0)}:=⟨_,rfl⟩
  rw[←ve,←MK]at rs
  obtain⟨H4,qN⟩: ∃X:aa,X=H3.set H.next (.cells (dm R1 U1) false):=⟨_,rfl⟩
  have k4:H.le H4:=by rw[qN];exact(UH.trans k3).set (Nat.le_refl _) _
  have n4:H4.next=H3.next:=by rw[qN];rfl
  have o0:H4.get H.next=some (.cells (dm R1 U1) false):=by rw[qN];simp only[YV,YW,YX,YY];repeat (first|rw[if_pos trivial]|rw[if_pos (by omega)]|rw[if_neg (by omega)])
  have o1:H4.get (H.next+1)=some (.cells [.int .i64 0,.int .i64 0,.int .i64 0,.int .i64 0,.int .i64 0,.slice none 0 0,.int .i64 0,.int .i64 0,.int .i64 0,.int .i64 0,.int .i64 0,.int .i64 0,.bool false,.bool false,.bool false,.bool false,.bool false,.bool false,.bool false,.bool false,.bool false,.bool false,.slice none 0 0,.int .i64 0,.int .i64 0,.slice none 0 0,.slice none 0 0] false):=by rw[qN,YW,if_neg (by omega)];exact f1
  have o3:H4.get (H2.next+1)=some (.cells [.int .i64 b1,.int .i64 b2] false):=by rw[qN,YW,if_neg (by omega)];exact b3'
  have hRA:R1.A=R.A:=by rw[ve]
  have hUa:U1.a=U.a:=by rw[MK]
  have i1:qG D H4 R1 U1:=by
   have hd:=h.le k4
   rw[ve,MK]
   refine⟨hd.a,?_,hd.t,hd.v⟩
   show eP D H4 4 (.slice none P'.L.length 0) (P'.L.map aG)
   rw[hL];exact eP.nil _ _ _
  simp -implicitDefEqProofs [vB,eT,nN,Kw,←hH3,c1,b2',b3',f0,qD,cK,rs,←qN,o0,o3,qaU,hRA,hUa]
  refine av (Dh c En mM (A:=R.A) (a:=b1) (n:=b2) (s:=s) (h.a.le k4).2 (by omega) fun w2 H5 k5 sw blk=> ?_)
  have n5:=k5.next
  have p0:=(k5.get H.next (by omega)).trans o0
  have p1:=(k5.get (H.next+1) (by omega)).trans o1
  have p3:=(k5.get (H2.next+1) (by omega)).trans o3
  have Xo:=NH R.A b1 b2 s
  obtain⟨A',hA'⟩: ∃A',A'=(R.A.promise b1 b2 s).1:=⟨_,rfl⟩
  obtain⟨bb,hb5⟩: ∃bb,bb=(R.A.promise b1 b2 s).2.2:=⟨_,rfl⟩
  unfold aV
  simp only at hK
  rw[←hA',←hb5]
  rw[←hA']at Xo hK
  have U9:A'.L.length=R.A.L.length:=by rw[Xo]
  obtain⟨H6,hH6⟩: ∃X:aa,X=(H5.alloc (.cells [.int .i64 0,.int .i64 0,.int .i64 0,.slice none 0 0] false)).set H5.next (.cells [.int .i64 A'.pa,.int .i64 A'.pn,.int .i64 A'.base,.slice U.a.1 R.A.L.length U.a.2] false):=⟨_,rfl⟩
  have k6:H5.le H6:=by rw[hH6];exact(H5.aj _).set (Nat.le_refl _) _
  have n6:H6.next=H5.next+1:=by rw[hH6];rfl
  have c0:=(k6.get H.next (by omega)).trans p0
  have c1':=(k6.get (H.next+1) (by omega)).trans p1
  have c3:=(k6.get (H2.next+1) (by omega)).trans p3
  have c5:H6.get H5.next=some (.cells [.int .i64 A'.pa,.int .i64 A'.pn,.int .i64 A'.base,.slice U.a.1 R.A.L.length U.a.2] false):=by rw[hH6];simp only[YV,YW,YX,YY];repeat (first|rw[if_pos trivial]|rw[if_pos (by omega)]|rw[if_neg (by omega)])
  have ML:=rS2 (R:=R1) (U:=U1) (A:=A') (a:=U1.a)
  rw[U9,hUa]at ML
  have Vn:({U1 with a:=U.a}:RU)=U1:=by rw[MK]
  obtain⟨R2,hR2⟩: ∃R2:DR,R2={R1 with A:=A'}:=⟨_,rfl⟩
  rw[Vn,←hR2]at ML
  have i2:qG D H4 R2 U1:=by rw[hR2];exact i1.SX (by rw[hRA];exact Xo)
  have hres:({R with P:=P',A:=A'}:DR)=R2:=by rw[hR2,ve]
  have hres2:(⟨R.n,R.me,A',P',R.L⟩:DR)=R2:=hres
  obtain⟨H7,hH7⟩: ∃X:aa,X=H6.set H.next (.cells (dm R2 U1) false):=⟨_,rfl⟩
  have n7:H7.next=H6.next:=by rw[hH7];rfl
  have k7:H4.le H6:=k5.trans k6
  have k7':H.le H7:=by rw[hH7];exact(k4.trans k7).set (Nat.le_refl _) _
  have d0:H7.get H.next=some (.cells (dm R2 U1) false):=by rw[hH7];simp only[YV,YW,YX,YY];repeat (first|rw[if_pos trivial]|rw[if_pos (by omega)]|rw[if_neg (by omega)])
  have d1:H7.get (H.next+1)=some (.cells [.int .i64 0,.int .i64 0,.int .i64 0,.int .i64 0,.int .i64 0,.slice none 0 0,.int .i64 0,.int .i64 0,.int .i64 0,.int .i64 0,.int .i64 0,.int .i64 0,.bool false,.bool false,.bool false,.bool false,.bool false,.bool false,.bool false,.bool false,.bool false,.bool false,.slice none 0 0,.int .i64 0,.int .i64 0,.slice none 0 0,.slice none 0 0] false):=by rw[hH7,YW,if_neg (by omega)];exact c1'
  have d3:H7.get (H2.next+1)=some (.cells [.int .i64 b1,.int .i64 b2] false):=by rw[hH7,YW,if_neg (by omega)];exact c3
  simp -implicitDefEqProofs [Xo,U9,←hH6,c0,c5,cK,ML,←hH7,d0,d3,iq]
  have U3:=Pf c h21 (H:=H7) (K:=fun r H8=>H7.le H8∧Gr H8 H7.next 7 r ((kJ R2 (uk s b1 b2)).map fun y=>aC y (.slice none 0 0))) (R:=R2) (U:=U1) (x:=uk s b1 b2) (ua:=none) (n:=0) (uc:=0) (by rw[hR2,ve];exact XE) fun w H8 k8 g8=>⟨k8,g8⟩
  have hal:kJ R2 (uk s b1 b2)=kJ R (uk s b1 b2):=by rw[hR2,ve];rfl
  have hvv:=xU R (uk s b1 b2)
  refine aI c.mono (c.mono _ _ _ _ _ (fun w H8 hr=> ?_) U3)
  obtain⟨k8,g8⟩:=hr
  rw[hal]at g8
  have n8:=k8.next
  have x0:=(k8.get H.next (by omega)).trans d0
  have x1:=(k8.get (H.next+1) (by omega)).trans d1
  have hns:=nK.same (D:=fun _=>False) g8 (fun x hx=>by rw[hvv x hx];exact eP.nil _ _ _)
  simp -implicitDefEqProofs [x0,x1,cK,iq,iY]
  have kk:H.le (H8.set (H.next+1) (.cells (dm R2 U1) false)):=(k7'.trans k8).set (by omega) _
  have i4:qG D (H8.set (H.next+1) (.cells (dm R2 U1) false)) R2 U1:=by
   refine⟨?_,?_,?_,?_⟩
   ·have hd:=((h.le kk).SX (A':=A') Xo).a
    have e1:R2.A=A':=by rw[hR2]
    rw[e1,hUa];exact hd
   ·have e1:R2.P=P':=by rw[hR2,ve]
    have e2:U1.p=(none,0):=by rw[MK]
    rw[e1,e2,hL];exact eP.nil _ _ _
   ·have hd:=(h.le kk).t
    have e1:R2.L=R.L:=by rw[hR2,ve]
    have e2:U1.t=U.t:=by rw[MK]
    rw[e1,e2];exact hd
   ·have hd:=(h.le kk).v
    have e1:R2.L=R.L:=by rw[hR2,ve]
    have e2:U1.v=U.v:=by rw[MK]
    rw[e1,e2];exact hd
  rw[hres2]at hK
  refine hK U1 w _ kk i4 ?_
  refine(hns.fr ((Fr.refl (fun b=>b=H.next+1) H8).set (.inl rfl) _) (fun b hb hn=> ?_)).weak fun b hb=> ?_
  ·rcases hb with hb|hb
   ·exact hb
   ·omega
  ·have:(H8.set (H.next+1) (.cells (dm R2 U1) false)).next=H8.next:=rfl
   rcases hb with hb|hb
   ·exact hb.elim
   ·omega
 ·rw[if_pos (by simpa using c1)]at hK
  have hu:=hu1 c1
  subst hu
  obtain⟨H3,hH3⟩: ∃X:aa,X=(((H2.alloc (.cells [.int .i64 0,.int .i64 0,.int .i64 0,.int .i64 0,.int .i64 0,.int .i64 0,.bool false,.bool false,.bool false,.bool false,.bool false,.bool false,.bool false,.bool false,.bool false,.bool false,.slice none 0 0] false)).alloc (.cells [.int .i64 0,.int .i64 0] false)).set H2.next (.cells (fJ P' (.slice U.p.1 R.P.L.length U.p.2)) false)).set (H2.next+1) (.cells [.int .i64 b1,.int .i64 b2] false):=⟨_,rfl⟩
  have k3:H2.le H3:=by rw[hH3];exact(((H2.aj _).alloc _).set (Nat.le_refl _) _).set (by omega) _
  have f0:=(k3.get H.next (by omega)).trans e0
  have f1:=(k3.get (H.next+1) (by omega)).trans e1
  simp -implicitDefEqProofs [vB,eT,nN,Kw,←hH3,f0,f1,c1,cK,iq,iY]
  have kk:H.le (H3.set (H.next+1) (.cells (dm R U) false)):=(UH.trans k3).set (by omega) _
  exact hK U _ _ kk (h.le kk) (nK.nil _ _)
end
end
section
theorem nK.one {H:aa}{n:Nat}{x:az}{u:Value}(hn:n≤H.next)(hu:eP (fun b=>n≤b∧b<H.next) H 4 u (x.ai.map aG)):
 nK (fun b=>n≤b∧b<H.next+1) (H.alloc (.cells (aC x u) false)) (.slice (some ⟨H.next,0,none⟩) 1 1) [x]:=by
 refine⟨[u],rfl,?_,?_⟩
 ·have QG:qJ (H.alloc (.cells (aC x u) false)) 7 (.slice (some ⟨H.next,0,none⟩) 1 1) [aC x u]:=
   ⟨_,1,rfl,fun _=>⟨H.next,0,_,false,rfl,by rw[YX];omega,by rw[YV,if_pos rfl],fun j r hj=>by
     match j,hj with
     |0,hj=>simp at hj;subst hj;exact⟨rfl,rfl,Nat.le_refl _⟩
     |j+1,hj=>simp at hj⟩⟩
  refine⟨⟨QG,fun b' o n' cc e _=> ?_⟩,QG,_,1,rfl,.inr ⟨_,_,rfl⟩,.inl ⟨by unfold dY;omega,Nat.le_refl _⟩⟩
  simp only[Value.slice.injEq,Option.some.injEq,Addr.mk.injEq]at e
  omega
 ·intro j y v a b
  match j,a,b with
  |0,a,b=>simp at a b;subst a;subst b;exact(hu.le (H.aj _)).weak fun b hb=>by omega
  |j+1,a,b=>simp at a
theorem qZ.swN {H:aa}{n m size:Nat}{v:Value}{rows:List (List Value)}(h:qZ H size v rows)(f:Blk n m v):eP (fun b=>n≤b∧b<m) H size v rows:=⟨⟨h.1,fun b o k cc e _=>f b o k cc e⟩,h⟩
section
variable (c:Ctx) (mM:dw c) (hQ:bN c) (h16:dS c) (En:eF c) (h19:dU c) (h20:eG c) (h21:fM c) {H:aa} {K:Value→aa→Prop} {D:Nat→Prop}
include mM En h19 h21 in
theorem Q9 {R:DR}{U:RU}{x:az}{ua:Option Addr}{n uc:Nat}(h:qG D H R U)(hA:R.A.L.length≤50000)
 (hK: ∀w H',H.le H'→qG D H' (R.bQ x).1 U→nK (fun b=>H.next≤b∧b<H'.next) H' w (R.bQ x).2→K (.tuple #[.agg (dm (R.bQ x).1 U).toArray,w]) H'):
 c.C (c.F yI) [.agg (dm R U).toArray,.agg (aC x (.slice ua n uc)).toArray] H K:=by
 refine c.enter h21.Co rfl ?_
 unfold DR.bQ at hK
 obtain⟨H0,hH0⟩: ∃X:aa,X=((H.alloc (.cells (dm R U) false)).alloc (.cells [.int .i64 x.kind,.int .i64 x.fr,.int .i64 x.to,.int .i64 x.slot,.int .i64 x.ba,.int .i64 x.bn,.slice ua n uc] false)).alloc (.cells [.int .i64 0,.int .i64 0,.int .i64 0,.int .i64 0,.int .i64 0,.slice none 0 0,.int .i64 0,.int .i64 0,.int .i64 0,.int .i64 0,.int .i64 0,.int .i64 0,.bool false,.bool false,.bool false,.bool false,.bool false,.bool false,.bool false,.bool false,.bool false,.bool false,.slice none 0 0,.int .i64 0,.int .i64 0,.slice none 0 0,.slice none 0 0] false):=⟨_,rfl⟩
 have k0:H.le H0:=by rw[hH0];exact((H.aj _).alloc _).alloc _
 have n0:H0.next=H.next+3:=by rw[hH0];rfl
 have g0:H0.get H.next=some (.cells (dm R U) false):=by rw[hH0];simp only[YV,YW,YX,YY];repeat (first|rw[if_pos trivial]|rw[if_pos (by omega)]|rw[if_neg (by omega)])
 have g1:H0.get (H.next+1)=some (.cells [.int .i64 x.kind,.int .i64 x.fr,.int .i64 x.to,.int .i64 x.slot,.int .i64 x.ba,.int .i64 x.bn,.slice ua n uc] false):=by rw[hH0];simp only[YV,YW,YX,YY];repeat (first|rw[if_pos trivial]|rw[if_pos (by omega)]|rw[if_neg (by omega)])
 have g2:H0.get (H.next+2)=some (.cells [.int .i64 0,.int .i64 0,.int .i64 0,.int .i64 0,.int .i64 0,.slice none 0 0,.int .i64 0,.int .i64 0,.int .i64 0,.int .i64 0,.int .i64 0,.int .i64 0,.bool false,.bool false,.bool false,.bool false,.bool false,.bool false,.bool false,.bool false,.bool false,.bool false,.slice none 0 0,.int .i64 0,.int .i64 0,.slice none 0 0,.slice none 0 0] false):=by rw[hH0];simp only[YV,YW,YX,YY];repeat (first|rw[if_pos trivial]|rw[if_pos (by omega)]|rw[if_neg (by omega)])
 simp -implicitDefEqProofs [kz,aC,←hH0,g0,g1,iq,cK]
 refine av (Q6 c mM h19 h21 (x:=x.ba) (n:=x.bn) (h.le k0) fun H1 k1 i1=> ?_)
 have n1:=k1.next
 obtain⟨R1,ve⟩: ∃R1,R1=R.step x.ba x.bn:=⟨_,rfl⟩
 have hRA:R1.A=R.A:=by rw[ve];rfl
 have hme:R1.me=R.me:=by rw[ve];rfl
 rw[←ve]at hK i1 ⊢
 have e0:=(k1.get H.next (by omega)).trans g0
 have e1:=(k1.get (H.next+1) (by omega)).trans g1
 have e2:=(k1.get (H.next+2) (by omega)).trans g2
 have d27:List.drop 27 (dm R U)=[]:=rfl
 obtain⟨H2,hH2⟩: ∃X:aa,X=H1.set H.next (.cells (dm R1 U) false):=⟨_,rfl⟩
 have k2:H.le H2:=by rw[hH2];exact(k0.trans k1).set (Nat.le_refl _) _
 have n2:H2.next=H1.next:=by rw[hH2];rfl
 have iR: ∀HX,H.le HX→qG D HX R1 U:=fun HX k=>by rw[ve];exact(h.le k).Q7 (P':=(R.P.step x.ba x.bn).1) (Hy _ _ _)
 have o0:H2.get H.next=some (.cells (dm R1 U) false):=by rw[hH2];simp only[YV,YW,YX,YY];repeat (first|rw[if_pos trivial]|rw[if_pos (by omega)]|rw[if_neg (by omega)])
 have o1:H2.get (H.next+1)=some (.cells [.int .i64 x.kind,.int .i64 x.fr,.int .i64 x.to,.int .i64 x.slot,.int .i64 x.ba,.int .i64 x.bn,.slice ua n uc] false):=by rw[hH2,YW,if_neg (by omega)];exact e1
 have o2:H2.get (H.next+2)=some (.cells [.int .i64 0,.int .i64 0,.int .i64 0,.int .i64 0,.int .i64 0,.slice none 0 0,.int .i64 0,.int .i64 0,.int .i64 0,.int .i64 0,.int .i64 0,.int .i64 0,.bool false,.bool false,.bool false,.bool false,.bool false,.bool false,.bool false,.bool false,.bool false,.bool false,.slice none 0 0,.int .i64 0,.int .i64 0,.slice none 0 0,.slice none 0 0] false):=by rw[hH2,YW,if_neg (by omega)];exact e2
 by_cases c1:x.slot<0
 ·rw[if_pos (.inl c1)]at hK
  simp -implicitDefEqProofs [e0,cK,iY,iq,d27,←hH2,o0,o1,o2,c1]
  have kk:H.le (H2.set (H.next+2) (.cells (dm R1 U) false)):=k2.set (by omega) _
  exact hK _ _ kk (iR _ kk) (nK.nil _ _)
 by_cases c2:1024≤x.slot
 ·rw[if_pos (.inr c2)]at hK
  simp -implicitDefEqProofs [e0,cK,iY,iq,d27,←hH2,o0,o1,o2,c1,c2]
  have kk:H.le (H2.set (H.next+2) (.cells (dm R1 U) false)):=k2.set (by omega) _
  exact hK _ _ kk (iR _ kk) (nK.nil _ _)
 rw[if_neg (by omega)]at hK
 simp -implicitDefEqProofs [e0,cK,iY,iq,d27,←hH2,o0,o1,o2,c1,c2,qaU,hRA]
 refine av (Dh c En mM (A:=R.A) (a:=x.ba) (n:=x.bn) (s:=x.slot) (h.a.le k2).2 (by omega) fun w2 H5 k5 sw blk=> ?_)
 have n5:=k5.next
 have p0:=(k5.get H.next (by omega)).trans o0
 have p1:=(k5.get (H.next+1) (by omega)).trans o1
 have p2:=(k5.get (H.next+2) (by omega)).trans o2
 have Xo:=NH R.A x.ba x.bn x.slot
 obtain⟨A',hA'⟩: ∃A',A'=(R.A.promise x.ba x.bn x.slot).1:=⟨_,rfl⟩
 obtain⟨vs,hvs⟩: ∃vs,vs=(R.A.promise x.ba x.bn x.slot).2.1:=⟨_,rfl⟩
 obtain⟨ok,hok⟩: ∃ok,ok=(R.A.promise x.ba x.bn x.slot).2.2:=⟨_,rfl⟩
 unfold aV
 rw[←hA',←hok]
 rw[←hA']at Xo
 rw[←hA',←hvs,←hok]at hK
 rw[←hvs]at sw
 have U9:A'.L.length=R.A.L.length:=by rw[Xo]
 obtain⟨H6,hH6⟩: ∃X:aa,X=(H5.alloc (.cells [.int .i64 0,.int .i64 0,.int .i64 0,.slice none 0 0] false)).set H5.next (.cells [.int .i64 A'.pa,.int .i64 A'.pn,.int .i64 A'.base,.slice U.a.1 R.A.L.length U.a.2] false):=⟨_,rfl⟩
 have k6:H5.le H6:=by rw[hH6];exact(H5.aj _).set (Nat.le_refl _) _
 have n6:H6.next=H5.next+1:=by rw[hH6];rfl
 have q0:=(k6.get H.next (by omega)).trans p0
 have q1:=(k6.get (H.next+1) (by omega)).trans p1
 have q2:=(k6.get (H.next+2) (by omega)).trans p2
 have q5:H6.get H5.next=some (.cells [.int .i64 A'.pa,.int .i64 A'.pn,.int .i64 A'.base,.slice U.a.1 R.A.L.length U.a.2] false):=by rw[hH6];simp only[YV,YW,YX,YY];repeat (first|rw[if_pos trivial]|rw[if_pos (by omega)]|rw[if_neg (by omega)])
 have ML:=rS2 (R:=R1) (U:=U) (A:=A') (a:=U.a)
 rw[U9]at ML
 have Vn:({U with a:=U.a}:RU)=U:=rfl
 obtain⟨R2,hR2⟩: ∃R2:DR,R2={R1 with A:=A'}:=⟨_,rfl⟩
 rw[Vn,←hR2]at ML
 have iR2: ∀HX,H.le HX→qG D HX R2 U:=fun HX k=>by rw[hR2];exact(iR HX k).SX (by rw[hRA];exact Xo)
 rw[←hR2]at hK
 have me2:R2.me=R.me:=by rw[hR2];exact hme
 obtain⟨H7,hH7⟩: ∃X:aa,X=H6.set H.next (.cells (dm R2 U) false):=⟨_,rfl⟩
 have n7:H7.next=H6.next:=by rw[hH7];rfl
 have k7:H.le H7:=by rw[hH7];exact((k2.trans k5).trans k6).set (Nat.le_refl _) _
 have d0:H7.get H.next=some (.cells (dm R2 U) false):=by rw[hH7];simp only[YV,YW,YX,YY];repeat (first|rw[if_pos trivial]|rw[if_pos (by omega)]|rw[if_neg (by omega)])
 have d1:H7.get (H.next+1)=some (.cells [.int .i64 x.kind,.int .i64 x.fr,.int .i64 x.to,.int .i64 x.slot,.int .i64 x.ba,.int .i64 x.bn,.slice ua n uc] false):=by rw[hH7,YW,if_neg (by omega)];exact q1
 have d2:H7.get (H.next+2)=some (.cells [.int .i64 0,.int .i64 0,.int .i64 0,.int .i64 0,.int .i64 0,.slice none 0 0,.int .i64 0,.int .i64 0,.int .i64 0,.int .i64 0,.int .i64 0,.int .i64 0,.bool false,.bool false,.bool false,.bool false,.bool false,.bool false,.bool false,.bool false,.bool false,.bool false,.slice none 0 0,.int .i64 0,.int .i64 0,.slice none 0 0,.slice none 0 0] false):=by rw[hH7,YW,if_neg (by omega)];exact q2
 obtain⟨aw,cw,hw2⟩:=sw.len
 rw[List.length_map]at hw2
 subst hw2
 cases ok with
 |false=>
  rw[if_pos rfl]at hK
  simp -implicitDefEqProofs [Xo,U9,←hH6,q0,q5,cK,ML,←hH7,d0,d2,iq,iY]
  have kk:H.le (H7.set (H.next+2) (.cells (dm R2 U) false)):=k7.set (by omega) _
  exact hK (.slice none 0 0) _ kk (iR2 _ kk) (nK.nil _ _)
 |true=>
  rw[if_neg (by simp)]at hK
  obtain⟨H8,PD⟩: ∃X:aa,X=H7.alloc (.cells [.int .i64 2,.int .i64 R.me,.int .i64 x.fr,.int .i64 0,.int .i64 x.ba,.int .i64 x.bn,.slice aw vs.length cw] false):=⟨_,rfl⟩
  have k8:H7.le H8:=by rw[PD];exact H7.aj _
  have c0:=(k8.get H.next (by omega)).trans d0
  have c1':=(k8.get (H.next+1) (by omega)).trans d1
  have c2':=(k8.get (H.next+2) (by omega)).trans d2
  have n8:H8.next=H7.next+1:=by rw[PD];rfl
  have w7:eP (fun b=>H.next+3≤b∧b<H7.next) H7 4 (.slice aw vs.length cw) (vs.map aG):=by
   have w5:=sw.swN blk
   have w6:=(w5.le k6).fr ((Fr.refl (fun b=>b=H.next) H6).set (.inl rfl) (.cells (dm R2 U) false)) (fun b hb hn=>by omega)
   rw[←hH7]at w6
   exact w6.weak fun b hb=>by omega
  have ns:=nK.one (x:=⟨2,R.me,x.fr,0,x.ba,x.bn,vs⟩) (by omega) w7
  unfold aC at ns
  have ns':nK (fun b=>H.next+3≤b∧b<H7.next+1) H8 (.slice (some ⟨H7.next,0,none⟩) 1 1) [⟨2,R.me,x.fr,0,x.ba,x.bn,vs⟩]:=by rw[PD];exact ns
  simp -implicitDefEqProofs [Xo,U9,←hH6,q0,q5,cK,ML,←hH7,d0,d1,d2,iq,iY,ND,NF,me2,←PD,c0,c1',c2']
  have kk:H.le (H8.set (H.next+2) (.cells (dm R2 U) false)):=(k7.trans k8).set (by omega) _
  refine hK _ _ kk (iR2 _ kk) ?_
  refine(ns'.fr ((Fr.refl (fun b=>b=H.next+2) H8).set (.inl rfl) _) (fun b hb hn=> ?_)).weak fun b hb=> ?_
  ·have hn:b=H.next+2:=hn
   have hb:H.next+3≤b∧b<H7.next+1:=hb
   omega
  ·have hb:H.next+3≤b∧b<H7.next+1:=hb
   show H.next≤b∧b<H8.next
   have:(H8.set (H.next+2) (.cells (dm R2 U) false)).next=H8.next:=rfl
   omega
end
end
end
end Go.Proofs.YtpbbjfighohokaaGreatI
