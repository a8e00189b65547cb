/- Who proposes: promises. / Who proposes: what it fills. / Who proposes: what stays right; one that is none. / PRINTED by gen.py (this session's own): the intermediate form of some functions, and a context's having them. / slices.Insert, of rows of four cells: what it does, its slice seen whole. / sli -/
import Derived.Test.YtpbbjfighohokaaGreatProD
import Derived.Test.YtpbbjfighohokaaGreatIdealZ
import Derived.Test.YtpbbjfighohokaaGreatBalA
namespace Go.Proofs.YtpbbjfighohokaaGreatI
open Go
set_option linter.unusedSimpArgs false
set_option linter.unusedVariables false
section
attribute [local simp] J0 J1 J2 J3 J4 J5 J6 J7 J8 J9 Ja Jb Jc Jd Je Jf Jg Jh Ji Jj Jk Jl Jm Jn Jo Jp Jq Jr Js Jt Ju Jv Jw Jx Jy Jz JA JB JC JD JE JF JG JH JI JJ JK JL JM JN JO JP JQ JR JS aQ bZ.kind JT JU JV JW JX JY JZ Y0 Y1 Y2 Y3 Y4 Y5 Y6 Y7 Y8 Y9 Ya Yb Yc Yd Ye Yf Yg Yh Yi Yj Yk Yl Ym Yn Yo Yp Yq jq Yr Ys Yt Yu Yv Yw Yx Yy dZ bA bE Yz YA YB YC YD YE eO YF YG YH YI YJ YK YL YM YN YO YP YQ YR YS YT YU nP bK jR nG bu putAt aa.ah aa.aP aa.aK YV YW YX YY YZ B0 B1 B2 B3 B4 B5 B6 B7 B8 B9 Ba Bb Bc Bd Be Bf Bg Bh Bi Bj Bk Bl Bm Bn Bo Bp
section
theorem Sm (P:bC)(v:ay):(P.count v).n=P.n∧(P.count v).me=P.me∧(P.count v).does=P.does∧(P.count v).fr=P.fr∧(P.count v).who=P.who∧(P.count v).ba=P.ba∧(P.count v).bn=P.bn∧(P.count v).filled=P.filled:=by
 unfold bC.count
 split
 ·split <;> exact⟨rfl,rfl,rfl,rfl,rfl,rfl,rfl,rfl⟩
 ·exact⟨rfl,rfl,rfl,rfl,rfl,rfl,rfl,rfl⟩
theorem qz: ∀(l:List ay) (P:bC),(l.foldl bC.count P).n=P.n∧(l.foldl bC.count P).me=P.me∧(l.foldl bC.count P).does=P.does∧(l.foldl bC.count P).fr=P.fr∧(l.foldl bC.count P).who=P.who∧(l.foldl bC.count P).ba=P.ba∧(l.foldl bC.count P).bn=P.bn∧(l.foldl bC.count P).filled=P.filled
 |[],P=>⟨rfl,rfl,rfl,rfl,rfl,rfl,rfl,rfl⟩
 |v::l,P=>by
  obtain⟨h1,h2,h3,h4,h5,h6,h7,h8⟩:=qz l (P.count v)
  obtain⟨k1,k2,k3,k4,k5,k6,k7,k8⟩:=Sm P v
  exact⟨h1.trans k1,h2.trans k2,h3.trans k3,h4.trans k4,h5.trans k5,h6.trans k6,h7.trans k7,h8.trans k8⟩
theorem Oy (w:Nat→Bool): ∀k,pV w k≤k
 |0=>Nat.le_refl _
 |k+1=>by have:=Oy w k;simp only[pV];split <;> omega
section
variable (c:Ctx) (hA:iG c) (hB:bN c) (hD:qh c) (hc:ry c) (hT:Ox c) {H:aa} {K:Value→aa→Prop} {B:Nat→Prop} {p:Nat} {P:bC}
include hA hB hc hT in
theorem Qx {fr a n:Int}{u:Value}{l:List ay}{D:Nat→Prop}(h:yV B H p P)(hfr:0≤P.fr)(XE:P.n≤7)(hu:Py D H 4 u (l.map aG))(hDB: ∀b,D b→¬ B b)(hl:l.length≤1000000)
 (hK: ∀H',Fr B H H'→yV B H' p (P.promise fr a n l).1→K (.bool (P.promise fr a n l).2) H'):
 c.C (c.F rq) [.pointer (some ⟨p,0,none⟩),.int .i64 fr,vB a n,u] H K:=by
 refine c.enter hc.tF rfl ?_
 obtain⟨mv,g,hrep⟩:=h.rep
 have hp:=h.lt p h.own
 have e1: ¬ p=H.next:=by omega
 obtain⟨H0,hH0⟩: ∃X:aa,X=H.alloc (.cells [.int .i64 a,.int .i64 n] false):=⟨_,rfl⟩
 have k0:H.le H0:=by rw[hH0];exact H.aj _
 have n0:H0.next=H.next+1:=by rw[hH0];rfl
 have b0:H0.get H.next=some (.cells [.int .i64 a,.int .i64 n] false):=by rw[hH0,YV,if_pos rfl]
 have g0:=(k0.get p hp).trans g
 have bad:(P.does≠1∨fr<0∨P.n≤fr∨¬ (a=P.ba∧n=P.bn)∨P.who fr.toNat=true)→K (.bool false) H0:=by
  intro hb
  have:P.promise fr a n l=(P,false):=by unfold bC.promise;rw[if_pos hb]
  rw[this]at hK
  exact hK H0 (k0.fr B) (h.le k0)
 by_cases h1:P.does=1
 ·by_cases h2:fr<0
  ·simp -implicitDefEqProofs [aX,vB,aT,←hH0,g0,Ga,Gc,Gf,Gg,Gi,Gl,Gn,o9,Gb,Gd,Gh,Gj,Gm,Gp,pg,ja,Gq,Gs,Gt,Gu,h1,h2]
   exact bad (.inr (.inl h2))
  ·by_cases h3:P.n≤fr
   ·simp -implicitDefEqProofs [aX,vB,aT,←hH0,g0,Ga,Gc,Gf,Gg,Gi,Gl,Gn,o9,Gb,Gd,Gh,Gj,Gm,Gp,pg,ja,Gq,Gs,Gt,Gu,h1,h2,h3]
    exact bad (.inr (.inr (.inl h3)))
   ·by_cases h4:a=P.ba∧n=P.bn
    ·obtain⟨rfl,rfl⟩:=h4
     have h2':0≤fr:=by omega
     obtain⟨i,rfl⟩: ∃i:Nat,fr=i:=⟨fr.toNat,by omega⟩
     have XF:i<7:=by omega
     have Uu:(i:Int)<7:=by omega
     have q1:=qas P mv i XF
     have Wn:8+i<16:=by omega
     by_cases h5:P.who i=true
     ·rw[h5]at q1
      have q1': ∀hh,(aU P mv)[8+i]'hh = .bool true:=fun hh=>by rw[List.getElem?_eq_getElem hh]at q1;exact Option.some.inj q1
      simp -implicitDefEqProofs [aX,vB,aT,←hH0,g0,b0,Ga,Gc,Gf,Gg,Gi,Gl,Gn,o9,Gb,Gd,Gh,Gj,Gm,Gp,pg,ja,Gq,Gs,Gt,Gu,h1,h2,h3,q1,q1',XF,Uu,Wn,h2']
      exact bad (.inr (.inr (.inr (.inr (by simpa using h5)))))
     ·have h5f:P.who i=false:=by simpa using h5
      rw[h5f]at q1
      have q1': ∀hh,(aU P mv)[8+i]'hh = .bool false:=fun hh=>by rw[List.getElem?_eq_getElem hh]at q1;exact Option.some.inj q1
      have qb1:8+i≤15:=by omega
      have tW:List.take (8+i) (aU P mv) ++ .bool true::List.drop (8+i+1) (aU P mv)=aU (P.lZ i) mv:=by
       have:=X6 P mv i XF
       simpa[putAt]using this
      obtain⟨PW,Qy⟩: ∃PW,PW=P.lZ i:=⟨_,rfl⟩
      obtain⟨H1,hH1⟩: ∃X:aa,X=H0.set p (.cells (aU PW mv) false):=⟨_,rfl⟩
      have f1:Fr B H H1:=by rw[hH1];exact(k0.fr B).set (.inl h.own) _
      have i1:yV B H1 p PW:=h.put f1.next (fun mv' g'=>by
       have:mv'=mv:=by simpa[g',aU]using g
       subst this
       rw[hH1,YW,if_pos rfl]) (fun b hb hne=>by rw[hH1,YW,if_neg hne];exact k0.get b hb) (by rw[Qy];rfl) (.inl (by rw[Qy];rfl))
      rw[←Qy]at tW
      have hpr:P.promise i P.ba P.bn l=if (pV PW.who 7:Int)<aO P.n then (l.foldl bC.count PW,false)else ((l.foldl bC.count PW).rz 2,true):=by
       unfold bC.promise
       rw[if_neg (by simp[h1,h3,h5f]),Qy]
       rfl
      rw[hpr]at hK
      have dW:PW.does≠0:=by rw[Qy];show P.does≠0;omega
      have fW:0≤PW.fr:=by rw[Qy];exact hfr
      obtain⟨ua,si,rfl,_⟩:=id hu.sl
      rw[List.length_map]at hu ⊢
      simp -implicitDefEqProofs [aX,vB,aT,←hH0,g0,b0,Ga,Gc,Gf,Gg,Gi,Gl,Gn,o9,Gb,Gd,Gh,Gj,Gm,Gp,pg,ja,Gq,Gs,Gt,Gu,h1,h2,h3,q1,q1',XF,Uu,Wn,h2',qb1,tW,←hH1]
      refine aS c.mono (fun k T H'=> ∃j:Nat,j≤l.length∧k=l.length-j∧T 0 = .pointer (some ⟨p,0,none⟩)∧T 56 = .slice ua l.length si∧T 57 = .int .i64 l.length∧T 58 = .int .i64 j∧Fr B H H'∧yV B H' p ((l.take j).foldl bC.count PW)) l.length ?_ ?_
      ·refine⟨0,by omega,rfl,?_⟩
       simp -implicitDefEqProofs []
       exact⟨f1,i1⟩
      ·rintro k T H' ⟨j,hj,rfl,t0,t56,t57,t58,fH,iH⟩
       by_cases hjl:j<l.length
       ·have eD:(j:Int)<(l.length:Int):=by omega
        have hx:l[j]? =some l[j]:=List.getElem?_eq_getElem hjl
        obtain⟨v,hv⟩: ∃v,v=l[j]:=⟨_,rfl⟩
        rw[←hv]at hx
        have hu':=hu.fr fH hDB
        obtain⟨b,o,cp,cs,ro,ea,hb,hget,hrl,hrow,hbd⟩:=hu'.sl.at (i:=j) (r:=aG v) (by simp[hx])
        rw[List.length_map]at ea
        simp only[Value.slice.injEq]at ea
        obtain⟨rfl,-,rfl⟩:=ea
        simp only[aG]at hrow
        have wj:IntKind.i64.wrap ((j:Int)+1)=(j:Int)+1:=wrap64 (by omega) (by omega)
        obtain⟨H2,hH2⟩: ∃X:aa,X=(H'.alloc (.cells [.int .i64 0,.int .i64 0,.int .i64 0,.string ⟨#[]⟩] false)).set H'.next (.cells [.int .i64 v.slot,.int .i64 v.a,.int .i64 v.n,.string v.val] false):=⟨_,rfl⟩
        have k2:H'.le H2:=by rw[hH2];exact(H'.aj _).set (Nat.le_refl _) _
        have b2:H2.get H'.next=some (.cells [.int .i64 v.slot,.int .i64 v.a,.int .i64 v.n,.string v.val] false):=by rw[hH2,YW,if_pos rfl]
        simp -implicitDefEqProofs [t0,t56,t57,t58,hjl,eD,hget,hrow,hbd,←hH2,b2]
        have hkp:=qz (l.take j) PW
        refine av (Ut c hA hc hT (v:=v) (iH.le k2) (by rw[hkp.2.2.1];exact dW) (by rw[hkp.2.2.2.1];exact fW) fun H3 f3 i3=> ?_)
        simp -implicitDefEqProofs [t0,t56,t57,t58,wj]
        refine⟨l.length-(j+1),by omega,j+1,by omega,rfl,rfl,fH.trans (k2.lq f3) (fun b hb=>.inl hb),?_⟩
        rw[List.take_add_one,hx,List.foldl_append]
        exact i3
       ·have eD: ¬ (j:Int)<(l.length:Int):=by omega
        have uA:j=l.length:=by omega
        subst uA
        rw[List.take_length]at iH
        have hkp:=qz l PW
        obtain⟨PF,Ry⟩: ∃PF,PF=l.foldl bC.count PW:=⟨_,rfl⟩
        rw[←Ry]at iH hK hkp
        obtain⟨mv2,g2,qbo⟩:=iH.rep
        have s7:List.take 7 (List.drop 8 (aU PF mv2))=X5 PF.who:=rfl
        simp -implicitDefEqProofs [t0,t56,t57,t58,hjl,eD,g2,Ga,Gc,Gf,Gg,Gi,Gl,Gn,o9,Gb,Gd,Gh,Gj,Gm,Gp,pg,ja,Gq,Gs,Gt,Gu,s7]
        refine aS c.mono (fun k T H2=> ∃j:Nat,j≤7∧k=7-j∧T 0 = .pointer (some ⟨p,0,none⟩)∧T 69 = .agg (X5 PF.who).toArray∧T 70 = .int .i64 j∧T 11 = .int .i64 (pV PW.who j:Nat)∧H2=H') 7 ?_ ?_
        ·refine⟨0,by omega,rfl,?_⟩
         simp -implicitDefEqProofs [t0]
         rfl
        ·rintro k T2 H2 ⟨j,hj,rfl,t0,t69,t70,t11,rfl⟩
         have qb2:=Oy PW.who j
         have wj:IntKind.i64.wrap ((j:Int)+1)=(j:Int)+1:=wrap64 (by omega) (by omega)
         have wc:IntKind.i64.wrap ((pV PW.who j:Int)+1)=(pV PW.who j:Int)+1:=wrap64 (by omega) (by omega)
         by_cases hj7:j<7
         ·have Uv:(j:Int)<7:=by omega
          have hg:=X7 PF.who j hj7
          cases hw:PF.who j with
          |true=>
           rw[hw]at hg
           simp -implicitDefEqProofs [t0,t69,t70,t11,hj7,Uv,hg,wj,wc]
           refine⟨7-(j+1),by omega,j+1,by omega,rfl,rfl,?_⟩
           simp only[pV,←hkp.2.2.2.2.1,hw]
           rfl
          |false=>
           rw[hw]at hg
           simp -implicitDefEqProofs [t0,t69,t70,t11,hj7,Uv,hg,wj]
           refine⟨7-(j+1),by omega,j+1,by omega,rfl,rfl,?_⟩
           simp only[pV,←hkp.2.2.2.2.1,hw]
           rfl
         ·have Uv: ¬ (j:Int)<7:=by omega
          have uA:j=7:=by omega
          subst uA
          simp -implicitDefEqProofs [t0,t69,t70,t11,g2,Ga,Gc,Gf,Gg,Gi,Gl,Gn,o9,Gb,Gd,Gh,Gj,Gm,Gp,pg,ja,Gq,Gs,Gt,Gu]
          refine av (AL c hB ?_)
          have hnn:PF.n=P.n:=by rw[hkp.1,Qy];rfl
          rw[hnn]
          by_cases hq:(pV PW.who 7:Int)<aO P.n
          ·rw[if_pos hq]at hK
           simp -implicitDefEqProofs [t0,t11,hq]
           exact hK _ fH iH
          ·rw[if_neg hq]at hK
           simp -implicitDefEqProofs [t0,t11,hq,g2,Ga,Gc,Gf,Gg,Gi,Gl,Gn,o9,Gb,Gd,Gh,Gj,Gm,Gp,pg,ja,Gq,Gs,Gt,Gu]
           refine hK _ (fH.set (.inl h.own) _) ?_
           have hm: ∃r,mv2 = .map (some r)∧B r∧IsMap H2 r kI vV PF.best:=by
            rcases qbo with⟨_,_,hz⟩|hm
            ·exact absurd hz (by rw[hkp.2.2.1];exact dW)
            ·exact hm
           obtain⟨r,rfl,hr,hm⟩:=hm
           refine⟨iH.lt,h.own,.map (some r),by rw[YW,if_pos rfl],.inr ⟨r,rfl,hr,hm.same (Nat.le_refl _) ?_⟩⟩
           rw[YW,if_neg (fun e=>hm.zn g2 e.symm)]
    ·have hb4:P.promise fr a n l=(P,false):=by unfold bC.promise;rw[if_pos (.inr (.inr (.inr (.inl h4))))]
     by_cases h4a:a=P.ba
     ·subst h4a
      have h4b: ¬ n=P.bn:=fun e=>h4 ⟨rfl,e⟩
      simp -implicitDefEqProofs [aX,vB,aT,←hH0,g0,b0,Ga,Gc,Gf,Gg,Gi,Gl,Gn,o9,Gb,Gd,Gh,Gj,Gm,Gp,pg,ja,Gq,Gs,Gt,Gu,h1,h2,h3,h4b]
      exact bad (.inr (.inr (.inr (.inl h4))))
     ·simp -implicitDefEqProofs [aX,vB,aT,←hH0,g0,b0,Ga,Gc,Gf,Gg,Gi,Gl,Gn,o9,Gb,Gd,Gh,Gj,Gm,Gp,pg,ja,Gq,Gs,Gt,Gu,h1,h2,h3,h4a]
      exact bad (.inr (.inr (.inr (.inl h4))))
 ·simp -implicitDefEqProofs [aX,vB,aT,←hH0,g0,Ga,Gc,Gf,Gg,Gi,Gl,Gn,o9,Gb,Gd,Gh,Gj,Gm,Gp,pg,ja,Gq,Gs,Gt,Gu,h1]
  exact bad (.inl h1)
end
end
section
theorem EY (P:bC): ∀(k:Nat) (s:Int),mK P s (k+1)=mK P s k++[⟨s+k,P.ba,P.bn,valOf (P.best (s+k))⟩]
 |0,s=>by simp[mK]
 |k+1,s=>by
  have ih:=EY P k (s+1)
  rw[mK,ih,mK,List.cons_append]
  rw[show s+1+(k:Int)=s+((k+1:Nat):Int)by omega]
theorem ug (P:bC): ∀(k:Nat) (s:Int),(mK P s k).length=k
 |0,_=>rfl
 |k+1,s=>by rw[mK,List.length_cons,ug P k]
theorem born_inj: ∀{es:List MapEntry} {x y:MapEntry},(es.map (·.born)).Nodup→x ∈ es→y ∈ es→x.born=y.born→x=y
 |[],_,_,_,h,_,_=>by simp at h
 |z::es,x,y,hn,hx,hy,e=>by
  simp only[List.map_cons,List.nodup_cons]at hn
  rcases List.mem_cons.1 hx with h1|h1
  ·rcases List.mem_cons.1 hy with h2|h2
   ·rw[h1,h2]
   ·subst h1;exact(hn.1 (List.mem_map.2 ⟨y,h2,e.symm⟩)).elim
  ·rcases List.mem_cons.1 hy with h2|h2
   ·subst h2;exact(hn.1 (List.mem_map.2 ⟨x,h1,e⟩)).elim
   ·exact born_inj hn.2 h1 h2 e
theorem yV.keep {B:Nat→Prop}{H H':aa}{p N:Nat}{P:bC}(h:yV B H p P)(k:aa.keep N H H')(hN: ∀b,B b→b<N):yV B H' p P:=by
 obtain⟨h1,h2,mv,h3,h4⟩:=h
 refine⟨fun b hb=>Nat.lt_of_lt_of_le (h1 b hb) k.next,h2,mv,(k.get p (hN p h2)).trans h3,h4.imp id ?_⟩
 rintro⟨r,e,hr,hm⟩
 exact⟨r,e,hr,hm.same k.next (k.get r (hN r hr))⟩
section
variable (c:Ctx) (hA:iG c) (hB:bN c) (hD:qh c) (hc:ry c) (hT:Ox c) {H:aa} {K:Value→aa→Prop} {B:Nat→Prop} {p:Nat} {P:bC}
include hc hT in
theorem Wo (h:yV B H p P)(ho:P.ok)(h0:(P.does≠2∨P.filled=true)→K (.slice none 0 0) H)
 (hK:P.does=2→P.filled=false→∀e,LA P e→∀v' H',Fr B H H'→yV B H' p (P.gG true)→Grow H' H.next 4 v' ((P.fill e).map aG)→K v' H'):
 c.C (c.F uF) [.pointer (some ⟨p,0,none⟩)] H K:=by
 refine c.enter hc.xA rfl ?_
 have hp:=h.lt p h.own
 simp -implicitDefEqProofs [iQ]
 refine av (Nh c hc h ?_)
 by_cases h1:P.does=2
 ·obtain⟨r,g,hr,hm,hne⟩:=h.getNext (by omega)
  have hrl:=h.lt r hr
  cases h2:P.filled with
  |true=>
   simp -implicitDefEqProofs [h1,g,Ga,Gc,Gf,Gg,Gi,Gl,Gn,o9,Gb,Gd,Gh,Gj,Gm,Gp,pg,ja,Gq,Gs,Gt,Gu,h2]
   exact h0 (.inr h2)
  |false=>
   obtain⟨o1,o2,o3,o4,o5,o6,o7,o8⟩:=ho
   obtain⟨PF,Ry⟩: ∃PF,PF=P.gG true:=⟨_,rfl⟩
   obtain⟨H1,hH1⟩: ∃X:aa,X=H.set p (.cells (aU PF (.map (some r))) false):=⟨_,rfl⟩
   have n1:H1.next=H.next:=by rw[hH1];rfl
   have g1:H1.get p=some (.cells (aU PF (.map (some r))) false):=by rw[hH1,YW,if_pos rfl]
   have m1:IsMap H1 r kI vV P.best:=hm.same (by omega) (by rw[hH1,YW,if_neg (fun e=>hne e.symm)])
   have f1:Fr B H H1:=by rw[hH1];exact(Fr.refl B H).set (.inl h.own) _
   obtain⟨es,clock,gr,hb,qb3,qb4⟩:=m1.entries
   have frF:PF.fr=P.fr:=by rw[Ry];rfl
   simp -implicitDefEqProofs [h1,g,Ga,Gc,Gf,Gg,Gi,Gl,Gn,o9,Gb,Gd,Gh,Gj,Gm,Gp,pg,ja,Gq,Gs,Gt,Gu,h2,←Ry,←hH1,g1,wS,gr,frF]
   refine aS c.mono (fun k T H'=> ∃(seen:List Nat) (e:Int),k=Qp es seen∧T 0 = .pointer (some ⟨p,0,none⟩)∧T 27 = .pointer (some ⟨H1.next,0,none⟩)∧T 3 = .int .i64 e ∧
    H'.next=H1.next+1∧(∀b,b<H1.next→H'.get b=H1.get b)∧H'.get H1.next=some (.iter (some r) clock seen clock) ∧
    P.fr≤e∧e≤P.next∧(∀x ∈ es,x.born ∈ seen→∀s,x.key=kI s→s<e)∧(e=P.fr∨∃v,P.best (e-1)=some v)) (Qp es []) ?_ ?_
   ·refine⟨[],P.fr,rfl,?_⟩
    simp -implicitDefEqProofs []
    exact⟨fun b hb hbn=>by omega,o5⟩
   ·rintro k T H' ⟨seen,e,rfl,t0,t27,t3,n',hold,git,e1,e2,e3,e4⟩
    have gr':=(hold r (by omega)).trans gr
    have g':=(hold p (by omega)).trans g1
    simp -implicitDefEqProofs [t0,t27,t3]
    refine X3 git gr' hb (fun hall=> ?_) (fun x hx hxs=> ?_)
    ·have hend:LA P e:=by
      refine⟨e1,fun s v hs=> ?_,e4⟩
      obtain⟨x,hx,hk,_⟩:=qb4 s v hs
      exact e3 x hx (hall x hx) s hk
     obtain⟨N,hN⟩: ∃N:Nat,N=(e-P.fr).toNat:=⟨_,rfl⟩
     have hN':e=P.fr+N:=by omega
     have kH:aa.keep H1.next H1 H':=⟨by omega,hold⟩
     have iF:yV B H1 p PF:=⟨fun b hb=>by have:=h.lt b hb;omega,h.own,_,g1,.inr ⟨r,rfl,hr,by rw[Ry];exact m1⟩⟩
     have bF:PF.best=P.best:=by rw[Ry];rfl
     have aF:PF.ba=P.ba∧PF.bn=P.bn:=by rw[Ry];exact⟨rfl,rfl⟩
     simp -implicitDefEqProofs [t0,t27,t3,g',Ga,Gc,Gf,Gg,Gi,Gl,Gn,o9,Gb,Gd,Gh,Gj,Gm,Gp,pg,ja,Gq,Gs,Gt,Gu,frF]
     refine aS c.mono (fun k T H2=> ∃j:Nat,j≤N∧k=N-j∧T 0 = .pointer (some ⟨p,0,none⟩)∧T 3 = .int .i64 e∧T 6 = .int .i64 (P.fr+j)∧aa.keep H1.next H1 H2∧Grow H2 H.next 4 (T 5) ((mK P P.fr j).map aG)) N ?_ ?_
     ·refine⟨0,by omega,rfl,?_⟩
      simp -implicitDefEqProofs [t0,t3]
      exact⟨kH,Grow.nil _ _ _⟩
     ·rintro k T2 H2 ⟨j,hj,rfl,t0,t3,t6,ZZ,Rz⟩
      by_cases RA:j<N
      ·have hlt:P.fr+(j:Int)<e:=by omega
       have ws:IntKind.i64.wrap (P.fr+(j:Int)+1)=P.fr+(j:Int)+1:=wrap64 (by omega) (by omega)
       have i2:=iF.keep ZZ (fun b hb=>by have:=h.lt b hb;omega)
       have g2:=(ZZ.get p (by omega)).trans g1
       have m2:IsMap H2 r kI vV P.best:=m1.same ZZ.next (ZZ.get r (by omega))
       have lk:=m2.look (P:=c.P) (keyOf_int hT.key) (P.fr+j) (.agg #[.int .i64 0,.int .i64 0,.int .i64 0,.string ⟨#[]⟩]) false
       simp only[kI]at lk
       obtain⟨q,hq⟩: ∃q,q=P.best (P.fr+(j:Int)):=⟨_,rfl⟩
       have hval: ∃z,(match P.best (P.fr+(j:Int))with|some a=>vV a|none=>Value.agg #[.int .i64 0,.int .i64 0,.int .i64 0,.string ⟨#[]⟩])=Value.agg z∧z.toList[3]? =some (.string (valOf (P.best (P.fr+(j:Int))))):=by
        cases P.best (P.fr+(j:Int))with
        |none=>exact⟨_,rfl,rfl⟩
        |some a=>exact⟨_,rfl,rfl⟩
       obtain⟨z,hz1,hz2⟩:=hval
       have lk':Qh c.P H2 (c.Ty 2) (.agg #[.int .i64 0,.int .i64 0,.int .i64 0,.string ⟨#[]⟩]) false (.map (some r)) (.int .i64 (P.fr+(j:Int)))=some (.agg z):=by
        rw[lk,←hz1]
        cases P.best (P.fr+(j:Int)) <;> rfl
       have hz2':z[3]? =some (.string (valOf (P.best (P.fr+(j:Int))))):=by simpa using hz2
       simp -implicitDefEqProofs [t0,t3,t6,hlt,g2,Ga,Gc,Gf,Gg,Gi,Gl,Gn,o9,Gb,Gd,Gh,Gj,Gm,Gp,pg,ja,Gq,Gs,Gt,Gu,lk',hz2']
       refine av (Qu c hc i2 fun H3 k3=> ?_)
       obtain⟨V,hV⟩: ∃V:ay,V=⟨P.fr+(j:Int),P.ba,P.bn,valOf (P.best (P.fr+(j:Int)))⟩:=⟨_,rfl⟩
       rw[aF.1,aF.2,←hV]
       obtain⟨H4,qN⟩: ∃X:aa,X=H3.alloc (.cells (aG V) false):=⟨_,rfl⟩
       have k4:H3.le H4:=by rw[qN];exact H3.aj _
       have b4:H4.get H3.next=some (.cells (aG V) false):=by rw[qN,YV,if_pos rfl]
       have n2:=ZZ.next
       have n3:=k3.next
       have hlen:=ug P j P.fr
       have qb5:H3.alloc (.cells [.int .i64 V.slot,.int .i64 V.a,.int .i64 V.n,.string V.val] false)=H4:=by rw[qN];rfl
       obtain⟨v5,H5,ap,MC,kp5⟩:=(Rz.le (k3.trans k4)).AJ (bytes:=40) (new:=aG V) (by have:=k4.next;omega) (by omega) (by omega) (by rw[List.length_map];omega) (by rw[List.length_map];omega) rfl rfl
       simp only[aG]at b4 ap
       simp -implicitDefEqProofs [t0,t3,t6,vV,qb5,bG,aZ,b4,ap,ws]
       refine⟨N-(j+1),by omega,j+1,by omega,rfl,by omega,?_,?_⟩
       ·exact(ZZ.trans ((k3.trans k4).keep (by omega))).trans (n1▸kp5)
       ·rw[EY,List.map_append]
        exact hV▸MC
      ·have hge: ¬ P.fr+(j:Int)<e:=by omega
       have uA:j=N:=by omega
       simp -implicitDefEqProofs [t0,t3,t6,hge]
       refine hK h1 h2 e hend _ _ (f1.trans (B:=B) ((ZZ.upd (S:=[]) (by omega)).fr (B:=B) (by simp)) (fun b hb=>.inl hb)) (Ry▸iF.keep ZZ (fun b hb=>by have:=h.lt b hb;omega)) ?_
       unfold bC.fill
       rw[←hN,←uA]
       exact Rz
    ·obtain⟨s,a,hk,hv,hbs⟩:=qb3 x hx
     obtain⟨q1,q2,q3,_,_⟩:=o8 s a hbs
     have ws:IntKind.i64.wrap (s+1)=s+1:=wrap64 (by omega) (by omega)
     simp -implicitDefEqProofs [t0,t27,t3,-J5]
     simp -implicitDefEqProofs only[J5]
     simp -implicitDefEqProofs [t0,t27,t3,-J5]
     refine Wj (since:=clock) (seen:=seen) (e:=x) (by rw[YW,if_pos rfl]) (by rw[YW,if_neg (by omega)];exact gr') hb hx ?_
     obtain⟨e',he'⟩: ∃e',(if e<s+1 then s+1 else e)=e':=⟨_,rfl⟩
     have hee:e≤e'∧s<e'∧(e'=e∨e'=s+1)∧e'≤P.next:=by rw[←he'];split <;> omega
     simp -implicitDefEqProofs [t0,t27,t3,hk,kI,ws,he']
     refine⟨_,Wi hx hxs,seen++[x.born],rfl,n',fun b hb'=> ?_,rfl,by omega,by omega,fun y hy hys s' hs'=> ?_,?_⟩
     ·rw[if_neg (by omega)];exact hold b hb'
     ·rcases List.mem_append.1 hys with hys|hys
      ·have:=e3 y hy hys s' hs';omega
      ·simp only[List.mem_singleton]at hys
       have:=born_inj hb.1 hy hx hys
       subst this
       rw[hk]at hs'
       simp only[kI,Value.int.injEq,true_and]at hs'
       omega
     ·rcases hee.2.2.1 with q|q
      ·rw[q];exact e4
      ·exact .inr ⟨a,by rw[q,show s+1-1=s by omega];exact hbs⟩
 ·simp -implicitDefEqProofs [h1]
  exact h0 (.inl h1)
end
end
end
section
theorem Wp {n me:Int}(h1:aO n≠0)(h2:0≤me)(h3:me<n):(bC.new n me).ok:=
 ⟨h1,h2,h3,Int.le_refl _,Int.le_refl _,by show(0:Int)≤1024;omega,⟨by show(0:Int)≤0;omega,by show(0:Int)≤2;omega⟩,fun _ _ h=>by cases h⟩
theorem bC.ok.lead {P:bC}(h:P.ok)(a n fr:Int):(P.lead a n fr).1.ok:=by
 unfold bC.lead
 split
 ·exact h
 ·rename_i hc
  split
  ·exact h
  ·simp only[not_or]at hc
   obtain⟨h1,h2,h3,_⟩:=h
   exact⟨h1,h2,h3,by show 0≤fr;omega,Int.le_refl _,by show fr≤1024;omega,⟨by show(0:Int)≤1;omega,by show(1:Int)≤2;omega⟩,fun _ _ h=>by cases h⟩
theorem bC.Uw {P:bC}{v:ay}:P.takes v=true↔P.fr≤v.slot∧v.slot<1024∧bJ v.a v.n=true∧v.val.size≤4096:=by
 unfold bC.takes
 simp only[Bool.and_eq_true,decide_eq_true_eq]
theorem bC.ok.count {P:bC}(h:P.ok)(v:ay):(P.count v).ok:=by
 unfold bC.count
 cases ht:P.takes v with
 |false=>exact h
 |true=>
  obtain⟨t1,t2,t3,t4⟩:=bC.Uw.1 ht
  obtain⟨h1,h2,h3,h4,h5,h6,h7,h8⟩:=h
  obtain⟨nx,hnx⟩: ∃nx,nx=(if v.slot+1>P.next then v.slot+1 else P.next):=⟨_,rfl⟩
  have q:P.next≤nx∧v.slot<nx∧nx≤1024:=by rw[hnx];split <;> omega
  rw[←hnx,if_pos rfl]
  split
  ·refine⟨h1,h2,h3,h4,by show P.fr≤nx;omega,q.2.2,h7,fun s w hw=> ?_⟩
   have hw':(if v.slot=s then some v else P.best s)=some w:=hw
   split at hw'
   ·rename_i e
    injection hw' with hw'
    subst hw'
    exact⟨e,by show P.fr≤s;omega,by show s<nx;omega,t3,t4⟩
   ·obtain⟨a1,a2,a3,a4⟩:=h8 s w hw'
    exact⟨a1,a2,by show s<nx;omega,a4⟩
  ·refine⟨h1,h2,h3,h4,by show P.fr≤nx;omega,q.2.2,h7,fun s w hw=> ?_⟩
   obtain⟨a1,a2,a3,a4⟩:=h8 s w hw
   exact⟨a1,a2,by show s<nx;omega,a4⟩
theorem GH: ∀(l:List ay) {P:bC},P.ok→(l.foldl bC.count P).ok
 |[],_,h=>h
 |v::l,_,h=>GH l (h.count v)
theorem bC.ok.lZ {P:bC}(h:P.ok)(i:Nat):(P.lZ i).ok:=h
theorem bC.ok.gG {P:bC}(h:P.ok)(b:Bool):(P.gG b).ok:=h
theorem bC.ok.rz {P:bC}(h:P.ok){x:Int}(hx:0≤x∧x≤2):(P.rz x).ok:=⟨h.1,h.2.1,h.2.2.1,h.2.2.2.1,h.2.2.2.2.1,h.2.2.2.2.2.1,hx,h.2.2.2.2.2.2.2⟩
theorem bC.ok.promise {P:bC}(h:P.ok)(fr a n:Int)(l:List ay):(P.promise fr a n l).1.ok:=by
 unfold bC.promise
 split
 ·exact h
 ·split
  ·exact GH l (h.lZ _)
  ·exact(GH l (h.lZ _)).rz ⟨by decide,by decide⟩
theorem bC.ok.ax {P:bC}(h:P.ok)(s:ByteArray):(P.ax s).1.ok:=by
 unfold bC.ax
 split
 ·exact h
 ·split
  ·exact h
  ·split
   ·exact h
   ·obtain⟨h1,h2,h3,h4,h5,h6,h7,h8⟩:=h
    refine⟨h1,h2,h3,h4,by show P.fr≤P.next+1;omega,by show P.next+1≤1024;omega,h7,fun s w hw=> ?_⟩
    obtain⟨a1,a2,a3,a4⟩:=h8 s w hw
    exact⟨a1,a2,by show s<P.next+1;omega,a4⟩
theorem bC.ok.step {P:bC}(h:P.ok)(a n:Int):(P.step a n).1.ok:=by
 unfold bC.step
 split
 ·exact h
 ·exact bC.ok.rz (P:=P.Ow a n) h ⟨by decide,by decide⟩
section
variable (c:Ctx) (hA:iG c) (hB:bN c) (hD:qh c) (hc:ry c) (hT:Ox c) {H:aa} {K:Value→aa→Prop}
include hc
end
end
abbrev zy:Nat:=177
abbrev uH:Nat:=178
abbrev gm:Nat:=179
abbrev vL:Nat:=180
abbrev kN:Nat:=181
abbrev lF:Nat:=182
abbrev jS:Nat:=184
abbrev tJ:Nat:=185
abbrev mF:Nat:=186
abbrev bf:Nat:=187
abbrev nW:Nat:=188
abbrev iJ:Nat:=189
def sj (F:Nat→FuncId)(Ty:Nat→TypeId):aA:=⟨3,[.tmp 0],.seq (.ops [⟨some 0,.move (.const (.pointer none)),none⟩]) (.seq (.ops [⟨some 1,.build [.int .i64 0,.int .i64 0,.int .i64 0,.slice none 0 0] [],none⟩,⟨some 2,.box (.tmp 1),none⟩,⟨some 0,.move (.tmp 2),none⟩]) (.ret))⟩
def iU (F:Nat→FuncId)(Ty:Nat→TypeId):aA:=⟨14,[.tmp 4,.tmp 5],.seq (.ops [⟨some 4,.move (.const (.int .i64 0)),none⟩,⟨some 5,.move (.const (.bool false)),none⟩]) (.seq (.ops [⟨some 6,.move (.tmp 0),none⟩,⟨some 7,.nilCheck (.tmp 6),none⟩,⟨some 8,.fieldAddr 3 (.tmp 7),none⟩,⟨some 9,.ah (.tmp 8),none⟩,⟨some 10,.move (.tmp 1),none⟩,⟨some 11,.call (F 189) [.tmp 9,.tmp 10,.func (F 179)],none⟩,⟨some 12,.extract (.tmp 11) 0,none⟩,⟨some 13,.extract (.tmp 11) 1,none⟩,⟨some 4,.move (.tmp 12),none⟩,⟨some 5,.move (.tmp 13),none⟩]) (.ret))⟩
def di (F:Nat→FuncId)(Ty:Nat→TypeId):aA:=⟨15,[.tmp 4],.seq (.ops [⟨some 2,.box (.tmp 0),none⟩,⟨some 4,.move (.const (.int .i64 0)),none⟩]) (.seq (.block 0 (.seq (.ops [⟨some 6,.fieldAddr 0 (.tmp 2),none⟩,⟨some 7,.ah (.tmp 6),none⟩,⟨some 8,.move (.tmp 1),none⟩,⟨some 9,.bin .lss (.tmp 7) (.tmp 8),none⟩,⟨some 5,.move (.tmp 9),none⟩]) (.cond (.tmp 5) (.seq (.ops [⟨some 4,.move (.const (.int .i64 (-1))),none⟩]) (.ret)) (.seq (.ops [⟨some 11,.fieldAddr 0 (.tmp 2),none⟩,⟨some 12,.ah (.tmp 11),none⟩,⟨some 13,.move (.tmp 1),none⟩,⟨some 14,.bin .gtr (.tmp 12) (.tmp 13),none⟩,⟨some 10,.move (.tmp 14),none⟩]) (.cond (.tmp 10) (.seq (.ops [⟨some 4,.move (.const (.int .i64 1)),none⟩]) (.ret)) (.skip)))))) (.seq (.ops [⟨some 4,.move (.const (.int .i64 0)),none⟩]) (.ret)))⟩
def jh (F:Nat→FuncId)(Ty:Nat→TypeId):aA:=⟨20,[.tmp 4],.seq (.ops [⟨some 3,.box (.tmp 1),none⟩,⟨some 4,.move (.const (.bool false)),none⟩]) (.seq (.draw [(⟨some 5,.move (.tmp 0),none⟩,[]),(⟨some 6,.fC 0 true (.tmp 5),none⟩,[]),(⟨some 7,.move (.tmp 6),none⟩,[]),(⟨some 8,.ak 2 (.tmp 3),some (7,true)⟩,[]),(⟨some 9,.call (F 5) [.tmp 8],some (7,true)⟩,[]),(⟨some 10,.pick (.tmp 7) (.tmp 9) (.const (.bool false)),none⟩,[]),(⟨some 11,.move (.tmp 10),none⟩,[]),(⟨some 12,.ak 2 (.tmp 3),some (11,true)⟩,[]),(⟨some 13,.move (.tmp 0),some (11,true)⟩,[]),(⟨some 14,.nilCheck (.tmp 13),some (11,true)⟩,[]),(⟨some 15,.fieldAddr 0 (.tmp 14),some (11,true)⟩,[]),(⟨some 16,.ak 2 (.tmp 15),some (11,true)⟩,[]),(⟨some 17,.call (F 4) [.tmp 12,.tmp 16],some (11,true)⟩,[]),(⟨some 18,.bin .geq (.tmp 17) (.const (.int .i64 0)),some (11,true)⟩,[]),(⟨some 19,.pick (.tmp 11) (.tmp 18) (.const (.bool false)),none⟩,[]),(⟨some 4,.move (.tmp 19),none⟩,[])]) (.ret))⟩
def gy (F:Nat→FuncId)(Ty:Nat→TypeId):aA:=⟨27,[.tmp 6,.tmp 7],.seq (.ops [⟨some 4,.box (.tmp 1),none⟩,⟨some 6,.move (.const (.slice none 0 0)),none⟩,⟨some 7,.move (.const (.bool false)),none⟩]) (.seq (.seq (.ops [⟨some 8,.move (.tmp 0),none⟩,⟨some 9,.ak 2 (.tmp 4),none⟩,⟨some 10,.call (F 180) [.tmp 8,.tmp 9],none⟩,⟨some 11,.un .not (.tmp 10),none⟩,⟨some 12,.move (.tmp 11),none⟩,⟨some 13,.move (.tmp 2),some (12,false)⟩,⟨some 14,.move (.tmp 0),some (12,false)⟩,⟨some 15,.nilCheck (.tmp 14),some (12,false)⟩,⟨some 16,.fieldAddr 2 (.tmp 15),some (12,false)⟩,⟨some 17,.ah (.tmp 16),some (12,false)⟩,⟨some 18,.bin .lss (.tmp 13) (.tmp 17),some (12,false)⟩,⟨some 19,.pick (.tmp 12) (.const (.bool true)) (.tmp 18),none⟩]) (.cond (.tmp 19) (.seq (.ops [⟨some 6,.move (.const (.slice none 0 0)),none⟩,⟨some 7,.move (.const (.bool false)),none⟩]) (.ret)) (.skip))) (.seq (.ops [⟨some 20,.move (.tmp 0),none⟩,⟨some 21,.ak 2 (.tmp 4),none⟩,⟨some 22,.nilCheck (.tmp 20),none⟩,⟨some 23,.fieldAddr 0 (.tmp 22),none⟩,⟨none,.store 2 (.tmp 23) (.tmp 21),none⟩]) (.seq (.ops [⟨some 24,.move (.tmp 0),none⟩,⟨some 25,.move (.tmp 2),none⟩,⟨some 26,.call (F 185) [.tmp 24,.tmp 25],none⟩,⟨some 6,.move (.tmp 26),none⟩,⟨some 7,.move (.const (.bool true)),none⟩]) (.ret))))⟩
def gK (F:Nat→FuncId)(Ty:Nat→TypeId):aA:=⟨63,[.tmp 4],.seq (.ops [⟨some 3,.box (.tmp 1),none⟩,⟨some 4,.move (.const (.bool false)),none⟩]) (.seq (.seq (.draw [(⟨some 7,.move (.tmp 0),none⟩,[]),(⟨some 8,.fieldAddr 1 (.tmp 3),none⟩,[]),(⟨some 9,.ak 2 (.tmp 8),none⟩,[]),(⟨some 10,.call (F 180) [.tmp 7,.tmp 9],none⟩,[]),(⟨some 11,.un .not (.tmp 10),none⟩,[]),(⟨some 12,.move (.tmp 11),none⟩,[]),(⟨some 13,.fieldAddr 0 (.tmp 3),some (12,false)⟩,[]),(⟨some 14,.ah (.tmp 13),some (12,false)⟩,[]),(⟨some 15,.move (.tmp 0),some (12,false)⟩,[]),(⟨some 16,.nilCheck (.tmp 15),some (12,false)⟩,[]),(⟨some 17,.fieldAddr 2 (.tmp 16),some (12,false)⟩,[]),(⟨some 18,.ah (.tmp 17),some (12,false)⟩,[]),(⟨some 19,.bin .lss (.tmp 14) (.tmp 18),some (12,false)⟩,[]),(⟨some 20,.pick (.tmp 12) (.const (.bool true)) (.tmp 19),none⟩,[]),(⟨some 21,.move (.tmp 20),none⟩,[]),(⟨some 22,.fieldAddr 0 (.tmp 3),some (21,false)⟩,[]),(⟨some 23,.ah (.tmp 22),some (21,false)⟩,[]),(⟨some 24,.bin .geq (.tmp 23) (.const (.int .i64 1024)),some (21,false)⟩,[]),(⟨some 25,.pick (.tmp 21) (.const (.bool true)) (.tmp 24),none⟩,[]),(⟨some 26,.move (.tmp 25),none⟩,[]),(⟨some 27,.fieldAddr 3 (.tmp 3),some (26,false)⟩,[]),(⟨some 28,.ah (.tmp 27),some (26,false)⟩,[]),(⟨some 29,.pI (.tmp 28),some (26,false)⟩,[]),(⟨some 30,.bin .gtr (.tmp 29) (.const (.int .i64 4096)),some (26,false)⟩,[]),(⟨some 31,.pick (.tmp 26) (.const (.bool true)) (.tmp 30),none⟩,[])]) (.cond (.tmp 31) (.seq (.ops [⟨some 4,.move (.const (.bool false)),none⟩]) (.ret)) (.skip))) (.seq (.ops [⟨some 32,.move (.tmp 0),none⟩,⟨some 33,.fieldAddr 1 (.tmp 3),none⟩,⟨some 34,.ak 2 (.tmp 33),none⟩,⟨some 35,.nilCheck (.tmp 32),none⟩,⟨some 36,.fieldAddr 0 (.tmp 35),none⟩,⟨none,.store 2 (.tmp 36) (.tmp 34),none⟩]) (.seq (.ops [⟨some 38,.move (.tmp 0),none⟩,⟨some 39,.fieldAddr 0 (.tmp 3),none⟩,⟨some 40,.ah (.tmp 39),none⟩,⟨some 41,.call (F 178) [.tmp 38,.tmp 40],none⟩,⟨some 37,.move (.tmp 41),none⟩,⟨some 42,.extract (.tmp 37) 0,none⟩,⟨some 43,.extract (.tmp 37) 1,none⟩,⟨some 5,.move (.tmp 42),none⟩,⟨some 6,.move (.tmp 43),none⟩]) (.seq (.seq (.ops [⟨some 44,.move (.tmp 6),none⟩]) (.cond (.tmp 44) (.draw [(⟨some 45,.move (.tmp 0),none⟩,[]),(⟨some 46,.nilCheck (.tmp 45),none⟩,[]),(⟨some 47,.fieldAddr 3 (.tmp 46),none⟩,[]),(⟨some 48,.ah (.tmp 47),none⟩,[]),(⟨some 49,.move (.tmp 5),none⟩,[]),(⟨some 50,.ak 4 (.tmp 3),none⟩,[]),(⟨some 51,.bg 4 (.tmp 48) (.tmp 49),none⟩,[]),(⟨none,.store 4 (.tmp 51) (.tmp 50),none⟩,[])]) (.draw [(⟨some 52,.move (.tmp 0),none⟩,[]),(⟨some 53,.move (.tmp 0),none⟩,[]),(⟨some 54,.nilCheck (.tmp 53),none⟩,[]),(⟨some 55,.fieldAddr 3 (.tmp 54),none⟩,[]),(⟨some 56,.ah (.tmp 55),none⟩,[]),(⟨some 57,.move (.tmp 5),none⟩,[]),(⟨some 58,.ak 4 (.tmp 3),none⟩,[]),(⟨some 59,.buildSlice 1 [.int .i64 0,.int .i64 0,.int .i64 0,.string ⟨#[]⟩] [((0,4),.tmp 58)],none⟩,[]),(⟨some 60,.call (F 187) [.tmp 56,.tmp 57,.tmp 59],none⟩,[]),(⟨some 61,.nilCheck (.tmp 52),none⟩,[]),(⟨some 62,.fieldAddr 3 (.tmp 61),none⟩,[]),(⟨none,.store 1 (.tmp 62) (.tmp 60),none⟩,[])]))) (.seq (.ops [⟨some 4,.move (.const (.bool true)),none⟩]) (.ret))))))⟩
def fT (F:Nat→FuncId)(Ty:Nat→TypeId):aA:=⟨10,[.dD 2 2],.seq (.ops [⟨some 2,.alloc [.int .i64 0,.int .i64 0],none⟩]) (.seq (.seq (.ops [⟨some 3,.move (.tmp 0),none⟩,⟨some 4,.fC 0 false (.tmp 3),none⟩]) (.cond (.tmp 4) (.seq (.ops [⟨some 5,.build [.int .i64 0,.int .i64 0] [],none⟩,⟨none,.store 2 (.tmp 2) (.tmp 5),none⟩]) (.ret)) (.skip))) (.seq (.ops [⟨some 6,.move (.tmp 0),none⟩,⟨some 7,.nilCheck (.tmp 6),none⟩,⟨some 8,.fieldAddr 0 (.tmp 7),none⟩,⟨some 9,.ak 2 (.tmp 8),none⟩,⟨none,.store 2 (.tmp 2) (.tmp 9),none⟩]) (.ret)))⟩
def gV (F:Nat→FuncId)(Ty:Nat→TypeId):aA:=⟨22,[.tmp 4],.seq (.ops [⟨some 4,.move (.const (.slice none 0 0)),none⟩]) (.seq (.seq (.ops [⟨some 7,.move (.tmp 0),none⟩,⟨some 8,.fC 0 false (.tmp 7),none⟩]) (.cond (.tmp 8) (.seq (.ops [⟨some 4,.move (.const (.slice none 0 0)),none⟩]) (.ret)) (.skip))) (.seq (.ops [⟨some 10,.move (.tmp 0),none⟩,⟨some 11,.move (.tmp 1),none⟩,⟨some 12,.call (F 178) [.tmp 10,.tmp 11],none⟩,⟨some 9,.move (.tmp 12),none⟩,⟨some 13,.extract (.tmp 9) 0,none⟩,⟨some 14,.extract (.tmp 9) 1,none⟩,⟨some 5,.move (.tmp 13),none⟩,⟨some 6,.move (.tmp 14),none⟩]) (.seq (.ops [⟨some 15,.move (.tmp 0),none⟩,⟨some 16,.nilCheck (.tmp 15),none⟩,⟨some 17,.fieldAddr 3 (.tmp 16),none⟩,⟨some 18,.ah (.tmp 17),none⟩,⟨some 19,.move (.tmp 5),none⟩,⟨some 20,.dn 4 (.tmp 18) (some (.tmp 19)) none none,none⟩,⟨some 21,.call (F 188) [.tmp 20],none⟩,⟨some 4,.move (.tmp 21),none⟩]) (.ret))))⟩
def iV (F:Nat→FuncId)(Ty:Nat→TypeId):aA:=⟨9,[.tmp 2],.seq (.ops [⟨some 2,.move (.const (.int .i64 0)),none⟩]) (.seq (.seq (.ops [⟨some 3,.move (.tmp 0),none⟩,⟨some 4,.fC 0 false (.tmp 3),none⟩]) (.cond (.tmp 4) (.seq (.ops [⟨some 2,.move (.const (.int .i64 0)),none⟩]) (.ret)) (.skip))) (.seq (.ops [⟨some 5,.move (.tmp 0),none⟩,⟨some 6,.nilCheck (.tmp 5),none⟩,⟨some 7,.fieldAddr 2 (.tmp 6),none⟩,⟨some 8,.ah (.tmp 7),none⟩,⟨some 2,.move (.tmp 8),none⟩]) (.ret)))⟩
def aR (F:Nat→FuncId)(Ty:Nat→TypeId):aA:=⟨95,[.tmp 6],.seq (.ops [⟨some 6,.move (.const (.slice none 0 0)),none⟩]) (.seq (.ops [⟨some 10,.move (.tmp 0),none⟩,⟨some 11,.move (.tmp 1),none⟩,⟨some 12,.dn 4 (.tmp 10) (some (.tmp 11)) none none,none⟩]) (.seq (.ops [⟨some 13,.move (.tmp 2),none⟩,⟨some 14,.bR (.tmp 13),none⟩,⟨some 7,.move (.tmp 14),none⟩]) (.seq (.seq (.ops [⟨some 15,.move (.tmp 7),none⟩,⟨some 16,.bin .eql (.tmp 15) (.const (.int .i64 0)),none⟩]) (.cond (.tmp 16) (.seq (.ops [⟨some 17,.move (.tmp 0),none⟩,⟨some 6,.move (.tmp 17),none⟩]) (.ret)) (.skip))) (.seq (.ops [⟨some 18,.move (.tmp 0),none⟩,⟨some 19,.bR (.tmp 18),none⟩,⟨some 8,.move (.tmp 19),none⟩]) (.seq (.seq (.ops [⟨some 20,.move (.tmp 1),none⟩,⟨some 21,.move (.tmp 8),none⟩,⟨some 22,.bin .eql (.tmp 20) (.tmp 21),none⟩]) (.cond (.tmp 22) (.seq (.ops [⟨some 23,.move (.tmp 0),none⟩,⟨some 24,.move (.tmp 2),none⟩,⟨some 25,.append 4 40 (.tmp 23) (.tmp 24),none⟩,⟨some 6,.move (.tmp 25),none⟩]) (.ret)) (.skip))) (.seq (.seq (.ops [⟨some 26,.move (.tmp 8),none⟩,⟨some 27,.move (.tmp 7),none⟩,⟨some 28,.bin .add (.tmp 26) (.tmp 27),none⟩,⟨some 29,.move (.tmp 0),none⟩,⟨some 30,.Tj (.tmp 29),none⟩,⟨some 31,.bin .gtr (.tmp 28) (.tmp 30),none⟩]) (.cond (.tmp 31) (.seq (.ops [⟨some 32,.move (.tmp 0),none⟩,⟨some 33,.move (.tmp 1),none⟩,⟨some 34,.dn 4 (.tmp 32) none (some (.tmp 33)) none,none⟩,⟨some 35,.move (.tmp 8),none⟩,⟨some 36,.move (.tmp 7),none⟩,⟨some 37,.bin .add (.tmp 35) (.tmp 36),none⟩,⟨some 38,.move (.tmp 1),none⟩,⟨some 39,.bin .sub (.tmp 37) (.tmp 38),none⟩,⟨some 40,.Ex 40 [.int .i64 0,.int .i64 0,.int .i64 0,.string ⟨#[]⟩] (.tmp 34) (.tmp 39),none⟩,⟨some 9,.move (.tmp 40),none⟩]) (.seq (.ops [⟨some 41,.move (.tmp 9),none⟩,⟨some 42,.move (.tmp 1),none⟩,⟨some 43,.dn 4 (.tmp 41) (some (.tmp 42)) none none,none⟩,⟨some 44,.move (.tmp 2),none⟩,⟨some 45,.copy 4 (.tmp 43) (.tmp 44),none⟩]) (.seq (.draw [(⟨some 46,.move (.tmp 9),none⟩,[]),(⟨some 47,.move (.tmp 1),none⟩,[]),(⟨some 48,.move (.tmp 7),none⟩,[]),(⟨some 49,.bin .add (.tmp 47) (.tmp 48),none⟩,[]),(⟨some 50,.dn 4 (.tmp 46) (some (.tmp 49)) none none,none⟩,[]),(⟨some 51,.move (.tmp 0),none⟩,[]),(⟨some 52,.move (.tmp 1),none⟩,[]),(⟨some 53,.dn 4 (.tmp 51) (some (.tmp 52)) none none,none⟩,[]),(⟨some 54,.copy 4 (.tmp 50) (.tmp 53),none⟩,[])]) (.seq (.ops [⟨some 55,.move (.tmp 9),none⟩,⟨some 6,.move (.tmp 55),none⟩]) (.ret))))) (.skip))) (.seq (.ops [⟨some 56,.move (.tmp 0),none⟩,⟨some 57,.move (.tmp 8),none⟩,⟨some 58,.move (.tmp 7),none⟩,⟨some 59,.bin .add (.tmp 57) (.tmp 58),none⟩,⟨some 60,.dn 4 (.tmp 56) none (some (.tmp 59)) none,none⟩,⟨some 0,.move (.tmp 60),none⟩]) (.seq (.seq (.ops [⟨some 61,.move (.tmp 2),none⟩,⟨some 62,.move (.tmp 0),none⟩,⟨some 63,.move (.tmp 1),none⟩,⟨some 64,.move (.tmp 7),none⟩,⟨some 65,.bin .add (.tmp 63) (.tmp 64),none⟩,⟨some 66,.dn 4 (.tmp 62) (some (.tmp 65)) none none,none⟩,⟨some 67,.call (F 190) [.tmp 61,.tmp 66],none⟩,⟨some 68,.un .not (.tmp 67),none⟩]) (.cond (.tmp 68) (.seq (.draw [(⟨some 69,.move (.tmp 0),none⟩,[]),(⟨some 70,.move (.tmp 1),none⟩,[]),(⟨some 71,.move (.tmp 7),none⟩,[]),(⟨some 72,.bin .add (.tmp 70) (.tmp 71),none⟩,[]),(⟨some 73,.dn 4 (.tmp 69) (some (.tmp 72)) none none,none⟩,[]),(⟨some 74,.move (.tmp 0),none⟩,[]),(⟨some 75,.move (.tmp 1),none⟩,[]),(⟨some 76,.dn 4 (.tmp 74) (some (.tmp 75)) none none,none⟩,[]),(⟨some 77,.copy 4 (.tmp 73) (.tmp 76),none⟩,[])]) (.seq (.ops [⟨some 78,.move (.tmp 0),none⟩,⟨some 79,.move (.tmp 1),none⟩,⟨some 80,.dn 4 (.tmp 78) (some (.tmp 79)) none none,none⟩,⟨some 81,.move (.tmp 2),none⟩,⟨some 82,.copy 4 (.tmp 80) (.tmp 81),none⟩]) (.seq (.ops [⟨some 83,.move (.tmp 0),none⟩,⟨some 6,.move (.tmp 83),none⟩]) (.ret)))) (.skip))) (.seq (.ops [⟨some 84,.move (.tmp 0),none⟩,⟨some 85,.move (.tmp 8),none⟩,⟨some 86,.dn 4 (.tmp 84) (some (.tmp 85)) none none,none⟩,⟨some 87,.move (.tmp 2),none⟩,⟨some 88,.copy 4 (.tmp 86) (.tmp 87),none⟩]) (.seq (.ops [⟨some 89,.move (.tmp 0),none⟩,⟨some 90,.move (.tmp 1),none⟩,⟨some 91,.dn 4 (.tmp 89) (some (.tmp 90)) none none,none⟩,⟨some 92,.move (.tmp 7),none⟩,⟨some 93,.call (F 191) [.tmp 91,.tmp 92],none⟩]) (.seq (.ops [⟨some 94,.move (.tmp 0),none⟩,⟨some 6,.move (.tmp 94),none⟩]) (.ret))))))))))))⟩
def bO (F:Nat→FuncId)(Ty:Nat→TypeId):aA:=⟨8,[.tmp 2],.seq (.ops [⟨some 2,.move (.const (.slice none 0 0)),none⟩]) (.seq (.seq (.ops [⟨some 3,.move (.tmp 0),none⟩,⟨some 4,.fC 1 false (.tmp 3),none⟩]) (.cond (.tmp 4) (.seq (.ops [⟨some 2,.move (.const (.slice none 0 0)),none⟩]) (.ret)) (.skip))) (.seq (.ops [⟨some 5,.buildSlice 0 [] [],none⟩,⟨some 6,.move (.tmp 0),none⟩,⟨some 7,.append 4 40 (.tmp 5) (.tmp 6),none⟩,⟨some 2,.move (.tmp 7),none⟩]) (.ret)))⟩
def bP (F:Nat→FuncId)(Ty:Nat→TypeId):aA:=⟨49,[.tmp 6,.tmp 7],.seq (.ops [⟨some 6,.move (.const (.int .i64 0)),none⟩,⟨some 7,.move (.const (.bool false)),none⟩]) (.seq (.ops [⟨some 12,.move (.tmp 0),none⟩,⟨some 13,.bR (.tmp 12),none⟩,⟨some 8,.move (.tmp 13),none⟩]) (.seq (.ops [⟨some 14,.move (.tmp 8),none⟩,⟨some 9,.move (.const (.int .i64 0)),none⟩,⟨some 10,.move (.tmp 14),none⟩]) (.seq (.block 0 (.loop (.seq (.seq (.ops [⟨some 15,.move (.tmp 9),none⟩,⟨some 16,.move (.tmp 10),none⟩,⟨some 17,.bin .lss (.tmp 15) (.tmp 16),none⟩]) (.cond (.tmp 17) (.skip) (.exit 0))) (.block 1 (.seq (.ops [⟨some 18,.move (.tmp 9),none⟩,⟨some 19,.move (.tmp 10),none⟩,⟨some 20,.bin .add (.tmp 18) (.tmp 19),none⟩,⟨some 21,.conv .u64 (.tmp 20),none⟩,⟨some 22,.bin .shr (.tmp 21) (.const (.int .u64 1)),none⟩,⟨some 23,.conv .i64 (.tmp 22),none⟩,⟨some 11,.move (.tmp 23),none⟩]) (.seq (.ops [⟨some 24,.move (.tmp 2),none⟩,⟨some 25,.move (.tmp 0),none⟩,⟨some 26,.move (.tmp 11),none⟩,⟨some 27,.bg 4 (.tmp 25) (.tmp 26),none⟩,⟨some 28,.ak 4 (.tmp 27),none⟩,⟨some 29,.move (.tmp 1),none⟩,⟨some 30,.nO (.tmp 24) [.tmp 28,.tmp 29],none⟩,⟨some 31,.bin .lss (.tmp 30) (.const (.int .i64 0)),none⟩]) (.cond (.tmp 31) (.ops [⟨some 32,.move (.tmp 11),none⟩,⟨some 33,.bin .add (.tmp 32) (.const (.int .i64 1)),none⟩,⟨some 9,.move (.tmp 33),none⟩]) (.ops [⟨some 34,.move (.tmp 11),none⟩,⟨some 10,.move (.tmp 34),none⟩])))))))) (.seq (.ops [⟨some 35,.move (.tmp 9),none⟩,⟨some 36,.move (.tmp 9),none⟩,⟨some 37,.move (.tmp 8),none⟩,⟨some 38,.bin .lss (.tmp 36) (.tmp 37),none⟩,⟨some 39,.move (.tmp 38),none⟩,⟨some 40,.move (.tmp 2),some (39,true)⟩,⟨some 41,.move (.tmp 0),some (39,true)⟩,⟨some 42,.move (.tmp 9),some (39,true)⟩,⟨some 43,.bg 4 (.tmp 41) (.tmp 42),some (39,true)⟩,⟨some 44,.ak 4 (.tmp 43),some (39,true)⟩,⟨some 45,.move (.tmp 1),some (39,true)⟩,⟨some 46,.nO (.tmp 40) [.tmp 44,.tmp 45],some (39,true)⟩,⟨some 47,.bin .eql (.tmp 46) (.const (.int .i64 0)),some (39,true)⟩,⟨some 48,.pick (.tmp 39) (.tmp 47) (.const (.bool false)),none⟩,⟨some 6,.move (.tmp 35),none⟩,⟨some 7,.move (.tmp 48),none⟩]) (.ret)))))⟩
structure pW (c:Ctx):Prop where
 Oz:c.IP (c.F 177)=some (sj c.F c.Ty)
 xD:c.IP (c.F 178)=some (iU c.F c.Ty)
 tK:c.IP (c.F 179)=some (di c.F c.Ty)
 ym:c.IP (c.F 180)=some (jh c.F c.Ty)
 tL:c.IP (c.F 181)=some (gy c.F c.Ty)
 uI:c.IP (c.F 182)=some (gK c.F c.Ty)
 sD:c.IP (c.F 184)=some (fT c.F c.Ty)
 vM:c.IP (c.F 185)=some (gV c.F c.Ty)
 xE:c.IP (c.F 186)=some (iV c.F c.Ty)
 jb:c.IP (c.F 187)=some (aR c.F c.Ty)
 pX:c.IP (c.F 188)=some (bO c.F c.Ty)
 jd:c.IP (c.F 189)=some (bP c.F c.Ty)
section
attribute [local simp] J0 J1 J2 J3 J4 J5 J6 J7 J8 J9 Ja Jb Jc Jd Je Jf Jg Jh Ji Jj Jk Jl Jm Jn Jo Jp Jq Jr Js Jt Ju Jv Jw Jx Jy Jz JA JB JC JD JE JF JG JH JI JJ JK JL JM JN JO JP JQ JR JS aQ bZ.kind JT JU JV JW JX JY JZ Y0 Y1 Y2 Y3 Y4 Y5 Y6 Y7 Y8 Y9 Ya Yb Yc Yd Ye Yf Yg Yh Yi Yj Yk Yl Ym Yn Yo Yp Yq jq Yr Ys Yt Yu Yv Yw Yx Yy dZ bA bE Yz YA YB YC YD YE eO YF YG YH YI YJ YK YL YM YN YO YP YQ YR YS YT YU nP bK jR nG bu putAt aa.ah aa.aP aa.aK YV YW YX YY YZ B0 B1 B2 B3 B4 B5 B6 B7 B8 B9 Ba Bb Bc Bd Be Bf Bg Bh Bi Bj Bk Bl Bm Bn Bo Bp
section
theorem X8 {L F new:List Value}(h:L.take F.length=F)(hl:F.length+new.length≤L.length):((putAt L F.length new).take (F.length+new.length))=F++new:=by
 unfold putAt
 rw[h,List.take_append_of_le_length (by simp)]
 rw[List.take_of_length_le (by simp)]
theorem rA {L vs:List Value}{o:Nat}(h:o+vs.length≤L.length):(putAt L o vs).length=L.length:=by
 unfold putAt
 simp only[List.length_append,List.length_take,List.length_drop];omega
theorem X9 {L A B new:List Value}(h:L.take (A.length+B.length)=A++B)(hl:A.length+new.length+B.length≤L.length):
 (putAt (putAt L (A.length+new.length) B) A.length new).take (A.length+new.length+B.length)=A++new++B:=by
 have hA:L.take A.length=A:=by
  have:=congrArg (List.take A.length) h
  rwa[List.take_take,Nat.min_eq_left (by omega),List.take_left]at this
 have h1:(putAt L (A.length+new.length) B).take A.length=A:=by
  unfold putAt
  rw[List.append_assoc,List.take_append_of_le_length (by rw[List.length_take];omega),List.take_take,Nat.min_eq_left (by omega),hA]
 have h2:(putAt L (A.length+new.length) B).drop (A.length+new.length)=B++L.drop (A.length+new.length+B.length):=by
  unfold putAt
  rw[List.append_assoc,List.drop_append_of_le_length (by rw[List.length_take];omega),List.drop_of_length_le (by rw[List.length_take];omega),List.nil_append]
 unfold putAt at h1 h2 ⊢
 rw[h1,h2]
 rw[←List.append_assoc,List.take_append_of_le_length (by simp only[List.length_append];omega),List.take_of_length_le (by simp only[List.length_append];omega)]
section
variable (c:Ctx) (hc:pW c) (hO: ∀(H:aa) (K:Value→aa→Prop) (b1 o1 n1 c1 b2 o2 n2 c2:Nat) (cs1 cs2:List Value),b1≠b2→0<n1→0<n2→H.get b1=some (.cells cs1 false)→H.get b2=some (.cells cs2 false)→o1≤cs1.length→cs2≠[]→K (.bool false) H →
 c.C (c.F 190) [.slice (some ⟨b1,o1,none⟩) n1 c1,.slice (some ⟨b2,o2,none⟩) n2 c2] H K) {H:aa} {K:Value→aa→Prop}
include hc in
theorem Za {vb:Nat}{new:List Value}(hv:H.get vb=some (.cells new false))(hn:new.length=4)(hK:K (.slice (some ⟨H.next,0,none⟩) 1 (dY+4)) (H.alloc (.cells new false))):
 c.C (c.F bf) [.slice none 0 0,.int .i64 0,.slice (some ⟨vb,0,none⟩) 1 1] H K:=by
 refine c.enter hc.jb rfl ?_
 have s0:cZ H 4 none 0 0 0 0 none=some (.slice none 0 0):=by simp[cZ,dY]
 have f1:aZ H 4 1 (.slice (some ⟨vb,0,none⟩) 1 1)=some new:=by simp[aZ,aa.aP,hv,hn,List.take_of_length_le]
 have a1:aY H 4 40 (.slice none 0 0) 1 new=some (.slice (some ⟨H.next,0,none⟩) 1 (dY+4),H.alloc (.cells new false)):=by simp[aY,hn]
 simp -implicitDefEqProofs [aR,eU,nL,s0,bG,f1,a1]
 exact hK
include hc hO in
theorem Ux {b cp n i vb:Nat}{L A B new:List Value}(hb:H.get b=some (.cells L false))(hv:H.get vb=some (.cells new false))(hne:vb≠b)(hvl:vb<H.next)(hbl:b<H.next)(hn:new.length=4)(hn1:new.all cO=true)
 (hA:A.length=i*4) (hB:B.length=(n-i)*4) (hin:i≤n) (hnl:n≤1000000) (hcp:n≤cp) (Aw:cp<dY) (hL:L.take (A.length+B.length)=A++B) (hroom:cp=0∨cp*4≤L.length) (hone:(A++B).all cO=true)
 (hK1: ∀L' H',n+1≤cp→L'.length=L.length→L'.take ((n+1)*4)=A++new++B→H'.next=H.next→H'.get b=some (.cells L' false)→(∀x,x≠b→H'.get x=H.get x)→K (.slice (some ⟨b,0,none⟩) (n+1) cp) H')
 (hK2: ∀H',H.le H'→H'.next=H.next+1→H'.get H.next=some (.cells (A++new++B) false)→K (.slice (some ⟨H.next,0,none⟩) (n+1) (dY+4)) H'):
 c.C (c.F bf) [.slice (some ⟨b,0,none⟩) n cp,.int .i64 i,.slice (some ⟨vb,0,none⟩) 1 1] H K:=by
 refine c.enter hc.jb rfl ?_
 have hAB:A.length+B.length=n*4:=by rw[hA,hB];omega
 obtain⟨x0,hx0⟩: ∃x,cZ H 4 (some ⟨b,0,none⟩) n cp i n none=some x:=by
  unfold cZ
  rw[if_pos Aw,if_pos (by simp;omega)]
  exact⟨_,rfl⟩
 have hi0:(0:Int)≤(i:Int):=by omega
 have f1:aZ H 4 1 (.slice (some ⟨vb,0,none⟩) 1 1)=some new:=by simp[aZ,aa.aP,hv,hn,List.take_of_length_le]
 by_cases hie:i=n
 ·subst hie
  have hBn:B=[]:=List.length_eq_zero_iff.1 (by rw[hB];omega)
  subst hBn
  rw[List.append_nil]at hL hone hK1 hK2
  rw[List.length_nil,Nat.add_zero]at hL hAB
  by_cases hr:i+1≤cp
  ·have hcl:cp*4≤L.length:=hroom.resolve_left (by omega)
   obtain⟨L1,hL1⟩: ∃L1,L1=putAt L (i*4) new:=⟨_,rfl⟩
   have a1:aY H 4 40 (.slice (some ⟨b,0,none⟩) i cp) 1 new=some (.slice (some ⟨b,0,none⟩) (i+1) cp,H.set b (.cells L1 false)):=by
    simp only[aY,aa.aK,hb]
    rw[if_pos ⟨by omega,by omega,by omega,by omega,by omega⟩,if_neg (by omega),if_pos ⟨Aw,hr⟩,if_pos ⟨by omega,hn1⟩,hL1]
    simp
   simp -implicitDefEqProofs [aR,eU,nL,hx0,bG,f1,a1]
   refine hK1 L1 _ hr (by rw[hL1];exact rA (by omega)) ?_ rfl (by rw[YW,if_pos rfl]) fun x hx=>by rw[YW,if_neg hx]
   have:=X8 (L:=L) (F:=A) (new:=new) hL (by omega)
   rw[hA,hn]at this
   rw[show(i+1)*4=i*4+4 by omega,hL1]
   exact this
  ·have f2:aZ H 4 i (.slice (some ⟨b,0,none⟩) i cp)=some A:=by
    simp only[aZ,aa.aP,hb]
    by_cases hz:i*4=0
    ·rw[if_pos hz]
     have:A=[]:=List.length_eq_zero_iff.1 (by rw[hA];exact hz)
     rw[this]
    ·rw[if_neg hz,if_pos (by have:=congrArg List.length hL;rw[List.length_take]at this;omega),List.drop_zero,←hA,hL]
   have a1:aY H 4 40 (.slice (some ⟨b,0,none⟩) i cp) 1 new=some (.slice (some ⟨H.next,0,none⟩) (i+1) (dY+4),H.alloc (.cells (A++new) false)):=by
    simp only[aY,f2]
    rw[if_pos ⟨by omega,by omega,by omega,by omega,by omega⟩,if_neg (by omega),if_neg (by omega),if_pos Aw]
   simp -implicitDefEqProofs [aR,eU,nL,hx0,bG,f1,a1]
   exact hK2 _ (H.aj _) rfl (by rw[YV,if_pos rfl])
 ·have hilt:i<n:=by omega
  have hcl:cp*4≤L.length:=hroom.resolve_left (by omega)
  have qbp: ¬ (i:Int)=(n:Int):=by omega
  have w1:IntKind.i64.wrap ((n:Int)+1)=(n:Int)+1:=wrap64 (by omega) (by omega)
  have w2:IntKind.i64.wrap ((i:Int)+1)=(i:Int)+1:=wrap64 (by omega) (by omega)
  have q1:(0:Int)≤(n:Int)+1:=by omega
  have q2:(0:Int)≤(i:Int)+1:=by omega
  have t1:((n:Int)+1).toNat=n+1:=by omega
  have t2:((i:Int)+1).toNat=i+1:=by omega
  have hLn:n*4≤L.length:=by omega
  have hLA:(L.take A.length)=A:=by
   have:=congrArg (List.take A.length) hL
   rwa[List.take_take,Nat.min_eq_left (by omega),List.take_left]at this
  have hLB:(L.drop (i*4)).take ((n-i)*4)=B:=by
   have:=congrArg (List.drop A.length) hL
   rw[List.drop_left,List.drop_take,Nat.add_sub_cancel_left,hA,hB]at this
   exact this
  have hBn:0<(n-i)*4:=by omega
  have hn1': ∀x ∈ new,cO x=true:=List.all_eq_true.1 hn1
  have hnn: ¬ new=[]:=by intro e;rw[e]at hn;simp at hn
  have qbq: ¬ B=[]:=by intro e;rw[e]at hB;simp at hB;omega
  have hB1:B.all cO=true:=by rw[List.all_append,Bool.and_eq_true]at hone;exact hone.2
  have qcF: ∀x ∈ B,cO x=true:=List.all_eq_true.1 hB1
  by_cases hr:n+1≤cp
  ·have hrI: ¬ (cp:Int)<(n:Int)+1:=by omega
   have s60:cZ H 4 (some ⟨b,0,none⟩) n cp 0 (n+1) none=some (.slice (some ⟨b,0,none⟩) (n+1) cp):=by
    unfold cZ
    rw[if_pos Aw,if_pos (by simp;omega)]
    simp only[Option.getD_none,Nat.sub_zero]
    rw[if_neg (by omega)]
    simp[Addr.add]
   have sI: ∀(X:aa) (k:Nat),k≤n→cZ X 4 (some ⟨b,0,none⟩) (n+1) cp k (n+1) none=some (.slice (some ⟨b,k*4,none⟩) (n+1-k) (cp-k)):=by
    intro X k hk
    unfold cZ
    rw[if_pos Aw,if_pos (by simp;omega)]
    simp only[Option.getD_none]
    rw[if_neg (by omega)]
    simp only[addr_add,Nat.zero_add]
   have s66:=sI H (i+1) (by omega)
   have s76:=sI H i (by omega)
   have e1:n+1-(i+1)=n-i:=by omega
   rw[e1]at s66
   have ii:i≤n+1:=by omega
   have ii2:i+1≤n+1:=by omega
   have m1:Nat.min (n+1-i) (n-i)=n-i:=Nat.min_eq_right (by omega)
   have m2:Nat.min 1 (n+1-i)=1:=Nat.min_eq_left (by omega)
   have m1':min (n+1-i) (n-i)=n-i:=Nat.min_eq_right (by omega)
   have m2':min 1 (n+1-i)=1:=Nat.min_eq_left (by omega)
   have fB:aZ H 4 (n-i) (.slice (some ⟨b,i*4,none⟩) (n+1-i) (cp-i))=some B:=by
    simp only[aZ,aa.aP,hb]
    rw[if_neg (by omega),if_pos (by omega),hLB]
   have hBl: ¬ B.length=0:=by omega
   have qb6: ¬ new.length=0:=by omega
   obtain⟨L1,hL1⟩: ∃L1,L1=putAt L ((i+1)*4) B:=⟨_,rfl⟩
   have l1:L1.length=L.length:=by rw[hL1];exact rA (by omega)
   have st1:H.aK b ((i+1)*4) B=some (H.set b (.cells L1 false)):=by
    simp only[aa.aK,hb]
    rw[if_pos ⟨by omega,hB1⟩,hL1]
   obtain⟨H1,hH1⟩: ∃X:aa,X=H.set b (.cells L1 false):=⟨_,rfl⟩
   rw[←hH1]at st1
   have g1:H1.get b=some (.cells L1 false):=by rw[hH1,YW,if_pos rfl]
   have gv:H1.get vb=some (.cells new false):=by rw[hH1,YW,if_neg hne];exact hv
   have f2:aZ H1 4 1 (.slice (some ⟨vb,0,none⟩) 1 1)=some new:=by simp[aZ,aa.aP,gv,hn,List.take_of_length_le]
   have s80:=sI H1 i (by omega)
   obtain⟨L2,hL2⟩: ∃L2,L2=putAt L1 (i*4) new:=⟨_,rfl⟩
   have st2:H1.aK b (i*4) new=some (H1.set b (.cells L2 false)):=by
    simp only[aa.aK,g1]
    rw[if_pos ⟨by omega,hn1⟩,hL2]
   simp -implicitDefEqProofs [aR,eU,nL,hin,hx0,bG,hie,qbp,w1,w2,Aw,hrI,q1,q2,t1,t2,s60,s66,ii,ii2]
   refine av (hO _ _ _ _ _ _ _ _ _ _ _ _ hne (by omega) (by omega) hv hb (by omega) (by intro e;rw[e]at hcl;simp at hcl;omega) ?_)
   have k1:(i+1)*4+B.length≤L.length:=by omega
   have k2:i*4+new.length≤L1.length:=by omega
   have fo1:List.take ((i+1)*4) L++(B++List.drop ((i+1)*4+B.length) L)=L1:=by rw[hL1,putAt,List.append_assoc]
   have fo2:List.take (i*4) L1++(new++List.drop (i*4+new.length) L1)=L2:=by rw[hL2,putAt,List.append_assoc]
   simp -implicitDefEqProofs [eU,nL,w2,q2,t2,s66,s76,ii,ii2,bG,m1,m1',fB,qbq,hb,k1,hB1,fo1,←hH1,s80,m2,m2',f2,hnn,g1,k2,hn1,fo2,-List.all_eq_true]
   have nx:(H1.set b (.cells L2 false)).next=H.next:=by rw[hH1];rfl
   refine hK1 L2 _ hr (by rw[hL2,rA (by omega),l1]) ?_ nx (by rw[YW,if_pos rfl]) fun x hx=>by rw[YW,if_neg hx,hH1,YW,if_neg hx]
   have:=X9 (L:=L) (A:=A) (B:=B) (new:=new) hL (by omega)
   rw[hA,hn,hB,show i*4+4=(i+1)*4 by omega,←hL1,←hL2]at this
   rw[show(n+1)*4=(i+1)*4+(n-i)*4 by omega]
   exact this
  ·have hrI:(cp:Int)<(n:Int)+1:=by omega
   have w3:IntKind.i64.wrap ((n:Int)+1-(i:Int))=(n:Int)+1-(i:Int):=wrap64 (by omega) (by omega)
   obtain⟨kk,hkk⟩: ∃kk,kk=n+1-i:=⟨_,rfl⟩
   have c1:(0:Int)≤(n:Int)+1-(i:Int):=by omega
   have c2:((n:Int)+1-(i:Int))*40≤17592186044416:=by omega
   have c3:(n:Int)+1-(i:Int)≤17592186044416:=by omega
   have c4:((n:Int)+1-(i:Int)).toNat=kk:=by omega
   have s34:cZ H 4 (some ⟨b,0,none⟩) n cp 0 i none=some (.slice (some ⟨b,0,none⟩) i cp):=by
    unfold cZ
    rw[if_pos Aw,if_pos (by simp;omega)]
    simp only[Option.getD_none,Nat.sub_zero]
    rw[if_neg (by omega)]
    simp[Addr.add]
   obtain⟨Z,hZ⟩: ∃Z,Z=(Builtin.zeroCells #[Value.int .i64 0,.int .i64 0,.int .i64 0,.string ⟨#[]⟩] kk).toList:=⟨_,rfl⟩
   have hZl:Z.length=kk*4:=by rw[hZ,Array.length_toList,nT];rfl
   have fA:aZ H 4 i (.slice (some ⟨b,0,none⟩) i cp)=some A:=by
    simp only[aZ,aa.aP,hb]
    by_cases hz:i*4=0
    ·rw[if_pos hz]
     have:A=[]:=List.length_eq_zero_iff.1 (by rw[hA];exact hz)
     rw[this]
    ·rw[if_neg hz,if_pos (by omega),List.drop_zero,←hA,hLA]
   obtain⟨H1,hH1⟩: ∃X:aa,X=H.alloc (.cells (A++Z) false):=⟨_,rfl⟩
   have a1:aY H 4 40 (.slice (some ⟨b,0,none⟩) i cp) kk Z=some (.slice (some ⟨H.next,0,none⟩) (n+1) (dY+4),H1):=by
    simp only[aY,fA]
    rw[if_pos ⟨by omega,by omega,by omega,by omega,by omega⟩,if_neg (by omega),if_neg (by omega),if_pos Aw,hH1,show i+kk=n+1 by omega]
   have g1:H1.get H.next=some (.cells (A++Z) false):=by rw[hH1,YV,if_pos rfl]
   have gb1:H1.get b=some (.cells L false):=by rw[hH1,YV,if_neg (by omega)];exact hb
   have gv1:H1.get vb=some (.cells new false):=by rw[hH1,YV,if_neg (by omega)];exact hv
   have sG: ∀(X:aa) (k:Nat),k≤n→cZ X 4 (some ⟨H.next,0,none⟩) (n+1) (dY+4) k (n+1) none=some (.slice (some ⟨H.next,k*4,none⟩) (n+1-k) (dY+4)):=by
    intro X k hk
    unfold cZ
    rw[if_neg (by omega)]
    simp
   have s43:=sG H1 i (by omega)
   have Wq:aZ H1 4 1 (.slice (some ⟨vb,0,none⟩) 1 1)=some new:=by simp[aZ,aa.aP,gv1,hn,List.take_of_length_le]
   obtain⟨L1,hL1⟩: ∃L1,L1=putAt (A++Z) (i*4) new:=⟨_,rfl⟩
   have l1:L1.length=(n+1)*4:=by rw[hL1,rA (by rw[List.length_append];omega),List.length_append];omega
   obtain⟨H2,hH2⟩: ∃X:aa,X=H1.set H.next (.cells L1 false):=⟨_,rfl⟩
   have st1:H1.aK H.next (i*4) new=some H2:=by
    simp only[aa.aK,g1]
    rw[if_pos ⟨by rw[List.length_append];omega,hn1⟩,hH2,hL1]
   have g2:H2.get H.next=some (.cells L1 false):=by rw[hH2,YW,if_pos rfl]
   have gb2:H2.get b=some (.cells L false):=by rw[hH2,YW,if_neg (by omega)];exact gb1
   have s50:=sG H2 (i+1) (by omega)
   rw[show n+1-(i+1)=n-i by omega]at s50
   have s53:cZ H2 4 (some ⟨b,0,none⟩) n cp i n none=some (.slice (some ⟨b,i*4,none⟩) (n-i) (cp-i)):=by
    unfold cZ
    rw[if_pos Aw,if_pos (by simp;omega)]
    simp only[Option.getD_none]
    rw[if_neg (by omega)]
    simp only[addr_add,Nat.zero_add]
   have fB:aZ H2 4 (n-i) (.slice (some ⟨b,i*4,none⟩) (n-i) (cp-i))=some B:=by
    simp only[aZ,aa.aP,gb2]
    rw[if_neg (by omega),if_pos (by omega),hLB]
   obtain⟨L2,hL2⟩: ∃L2,L2=putAt L1 ((i+1)*4) B:=⟨_,rfl⟩
   have st2:H2.aK H.next ((i+1)*4) B=some (H2.set H.next (.cells L2 false)):=by
    simp only[aa.aK,g2]
    rw[if_pos ⟨by omega,hB1⟩,hL2]
   have ii:i≤n+1:=by omega
   have ii2:i+1≤n+1:=by omega
   have m1:Nat.min (n-i) (n-i)=n-i:=Nat.min_self _
   have m2:Nat.min 1 (n+1-i)=1:=Nat.min_eq_left (by omega)
   have m2':min 1 (n+1-i)=1:=Nat.min_eq_left (by omega)
   have hBl: ¬ B.length=0:=by omega
   have qb6: ¬ new.length=0:=by omega
   have hE:L2=A++new++B:=by
    have e1:L1=A++new++Z.drop 4:=by
     rw[hL1]
     unfold putAt
     rw[←hA,List.take_left,List.drop_append,List.drop_of_length_le (by omega),hn,Nat.add_sub_cancel_left]
     simp
    have l3:L2.length=L1.length:=by rw[hL2];exact rA (by omega)
    rw[hL2]
    unfold putAt
    have e2:(i+1)*4=(A++new).length:=by rw[List.length_append];omega
    rw[List.drop_of_length_le (by omega),List.append_nil,e2]
    conv=>lhs;rw[e1]
    rw[List.take_left]
   have c1':(i:Int)≤(n:Int)+1:=by omega
   have hAZ:(A++Z).length=(n+1)*4:=by rw[List.length_append];omega
   obtain⟨Y,hY⟩: ∃Y,Y=A++Z:=⟨_,rfl⟩
   rw[←hY]at g1 hL1 hAZ
   have k1:i*4+new.length≤Y.length:=by omega
   have k2:(i+1)*4+B.length≤L1.length:=by omega
   have fo1:List.take (i*4) Y++(new++List.drop (i*4+new.length) Y)=L1:=by rw[hL1,putAt,List.append_assoc]
   have fo2:List.take ((i+1)*4) L1++(B++List.drop ((i+1)*4+B.length) L1)=L2:=by rw[hL2,putAt,List.append_assoc]
   simp -implicitDefEqProofs [aR,eU,nL,hin,hx0,bG,hie,qbp,w1,w2,w3,Aw,hrI,s34,c1,c1',c2,c3,c4,←hZ,a1,s43,ii,q2,t2,m2,m2',Wq,hnn,g1,k1,hn1,fo1,←hH2,ii2,s50,s53,m1,fB,qbq,g2,k2,hB1,fo2,-List.all_eq_true]
   refine hK2 _ (by rw[hH2,hH1];exact((H.aj _).set (Nat.le_refl _) _).set (Nat.le_refl _) _) (by rw[hH2,hH1];rfl) (by rw[YW,if_pos rfl,hE])
end
end
end
section
def VS (H:aa)(q:Nat)(u:Value)(rows:List (List Value)):Prop:=(rows=[]∧u = .slice none 0 0)∨∃cs,q<H.next∧u = .slice (some ⟨q,0,none⟩) rows.length (dY+4)∧H.get q=some (.cells cs false)∧cs.take (rows.length*4)=rows.flatten∧rows.length*4≤cs.length
theorem VS.upd {H H':aa}{S:List Nat}{q:Nat}{u:Value}{rows:List (List Value)}(h:VS H q u rows)(hu:aa.upd S H H')(hq:q ∉ S):VS H' q u rows:=by
 rcases h with h|⟨cs,a,b,c,d,e⟩
 ·exact .inl h
 ·exact .inr ⟨cs,Nat.lt_of_lt_of_le a hu.next,b,(hu.get q a hq).trans c,d,e⟩
theorem VS.le {H H':aa}{q:Nat}{u:Value}{rows:List (List Value)}(h:VS H q u rows)(hu:H.le H'):VS H' q u rows:=h.upd (hu.upd []) (by simp)
theorem VS.Rx {H:aa}{q:Nat}{u:Value}{rows:List (List Value)}(h:VS H q u rows)(h4: ∀r ∈ rows,r.length=4):qZ H 4 u rows:=by
 rcases h with⟨rfl,rfl⟩|⟨cs,a,rfl,c,d,e⟩
 ·exact qZ.nil H 4
 ·refine⟨⟨_,_,rfl,fun _=>⟨q,0,cs,false,rfl,a,c,fun i r hr=> ?_⟩⟩,_,_,rfl,.inr ⟨_,_,rfl⟩,.inr ⟨rfl,by simp⟩⟩
  obtain⟨f1,f2⟩:=rX rows 4 i r h4 hr
  have hfl:=dR rows 4 h4
  refine⟨h4 r (List.mem_of_getElem? hr),?_,by omega⟩
  rw[←f1,←d,Nat.zero_add,List.drop_take,List.take_take,Nat.min_eq_left (by omega)]
theorem VS.Uy {H:aa}{q:Nat}{u:Value}{rows:List (List Value)}(h:VS H q u rows): ∃a cap,u = .slice a rows.length cap:=by
 rcases h with⟨rfl,rfl⟩|⟨cs,_,rfl,_⟩
 ·exact⟨_,_,rfl⟩
 ·exact⟨_,_,rfl⟩
theorem pY (rows:List (List Value))(i:Nat):rows.flatten=(rows.take i).flatten++(rows.drop i).flatten:=by
 conv=>lhs;rw[←List.take_append_drop i rows]
 rw[List.flatten_append]
section
variable (c c0:Ctx) (hc:pW c0) (hO: ∀(H:aa) (K:Value→aa→Prop) (b1 o1 n1 c1 b2 o2 n2 c2:Nat) (cs1 cs2:List Value),b1≠b2→0<n1→0<n2→H.get b1=some (.cells cs1 false)→H.get b2=some (.cells cs2 false)→o1≤cs1.length→cs2≠[]→K (.bool false) H →
 c0.C (c0.F 190) [.slice (some ⟨b1,o1,none⟩) n1 c1,.slice (some ⟨b2,o2,none⟩) n2 c2] H K)
 (hX: ∀(s:Value) (r:List Value) (H:aa) (K:Value→aa→Prop),Lf H 4 s (fun t H1=>c0.C (c0.F bf) (t::r) H1 fun v H2=>Hide H2 4 v K)→c.C (c.F bf) (s::r) H K)
 {H:aa} {K:Value→aa→Prop}
include hc hO hX in
theorem qau {q vb i:Nat}{u:Value}{rows:List (List Value)}{new:List Value}(hu:VS H q u rows)(h4: ∀r ∈ rows,r.length=4)(hone:rows.flatten.all cO=true)
 (hv:H.get vb=some (.cells new false)) (hvl:vb<H.next) (hne:vb≠q) (hn:new.length=4) (hn1:new.all cO=true) (hi:i≤rows.length) (hl:rows.length≤1000000)
 (hK: ∀q' H',aa.upd [q] H H'→H.next≤q'→VS H' q' (.slice (some ⟨q',0,none⟩) (rows.length+1) (dY+4)) (rows.take i++new::rows.drop i)→K (.slice (some ⟨q',0,none⟩) (rows.length+1) (dY+4)) H'):
 c.C (c.F bf) [u,.int .i64 i,.slice (some ⟨vb,0,none⟩) 1 1] H K:=by
 refine hX u _ H K ?_
 have hlen:(rows.take i++new::rows.drop i).length=rows.length+1:=by simp;omega
 have Z0:(rows.take i++new::rows.drop i).flatten=(rows.take i).flatten++new++(rows.drop i).flatten:=by rw[List.flatten_append,List.flatten_cons,List.append_assoc]
 have hA:((rows.take i).flatten).length=i*4:=by rw[dR _ 4 fun r hr=>h4 r (List.mem_of_mem_take hr),List.length_take];omega
 have hB:((rows.drop i).flatten).length=(rows.length-i)*4:=by rw[dR _ 4 fun r hr=>h4 r (List.mem_of_mem_drop hr),List.length_drop]
 have hall:((rows.take i).flatten++new++(rows.drop i).flatten).length=(rows.length+1)*4:=by simp only[List.length_append];omega
 rcases hu with⟨rfl,rfl⟩|⟨cs,hq,rfl,hg,hcs,hcl⟩
 ·refine .inl ⟨rfl,?_⟩
  have hi0:i=0:=by simpa using hi
  subst hi0
  refine Za c0 hc hv hn (.inl (hK H.next _ ((H.aj _).upd _) (Nat.le_refl _) (.inr ⟨new,by simp[YX],rfl,by rw[YV,if_pos rfl],by simp[hn,List.take_of_length_le],by simp[hn]⟩)))
 ·refine .inr ⟨q,0,rows.length,cs,rfl,hg,fun cp vG hcp Aw hroom=> ?_⟩
  have hR: ∀x,x<H.next→x≠q→((H.set q .dead).alloc (.cells (cs++vG) false)).get x=H.get x:=fun x h1 h2=>by
   rw[YV,YY,if_neg (by omega),YW,if_neg h2]
  have XG:((H.set q .dead).alloc (.cells (cs++vG) false)).next=H.next+1:=rfl
  have hRg:((H.set q .dead).alloc (.cells (cs++vG) false)).get H.next=some (.cells (cs++vG) false):=by rw[YV,YY,if_pos rfl]
  obtain⟨HR,hHR⟩: ∃X:aa,X=(H.set q .dead).alloc (.cells (cs++vG) false):=⟨_,rfl⟩
  rw[←hHR]at hR XG hRg ⊢
  refine Ux c0 hc hO (A:=(rows.take i).flatten) (B:=(rows.drop i).flatten) hRg ((hR vb hvl hne).trans hv) (by omega) (by omega) (by omega) hn hn1 hA hB hi hl hcp Aw ?_ (hroom.imp id fun h=>by omega) (by rw[←pY];exact hone) (fun L' H' hr hL1 hL2 hnx hgb hoth=> ?_) (fun H' hle hnx hgn=> ?_)
  ·rw[←pY,←hcs,hA,hB,show i*4+(rows.length-i)*4=rows.length*4 by omega,List.take_append_of_le_length hcl]
  ·have qcG:0+cp*4≤(cs++vG).length:=hroom.resolve_left (by omega)
   refine .inr ⟨H.next,0,rows.length+1,cp,L',rfl,Aw,hgb,hr,by omega,?_⟩
   rw[hnx,XG]
   refine hK (H.next+1) _ ⟨by simp only[YX,YY];omega,fun x h1 h2=> ?_⟩ (by omega) (.inr ⟨_,by simp only[YX,YY];omega,by rw[hlen],by rw[YV,YY,if_pos (by omega)],?_,?_⟩)
   ·simp only[List.mem_singleton]at h2
    rw[YV,YY,if_neg (by omega),YW,if_neg (by omega),hoth x (by omega),hR x h1 h2]
   ·rw[hlen,List.drop_zero,List.take_take,Nat.min_self,hL2,Z0]
   ·rw[hlen,List.drop_zero,hL2,hall];exact Nat.le_refl _
  ·rw[XG]at hgn ⊢
   refine .inl (hK (H.next+1) H' ⟨by have:=hle.next;omega,fun x h1 h2=> ?_⟩ (by omega) (.inr ⟨_,by omega,by rw[hlen],hgn,?_,?_⟩))
   ·simp only[List.mem_singleton]at h2
    rw[hle.get x (by omega),hR x h1 h2]
   ·rw[hlen,Z0,List.take_of_length_le (by omega)]
   ·rw[hlen,hall];exact Nat.le_refl _
end
end
end Go.Proofs.YtpbbjfighohokaaGreatI
