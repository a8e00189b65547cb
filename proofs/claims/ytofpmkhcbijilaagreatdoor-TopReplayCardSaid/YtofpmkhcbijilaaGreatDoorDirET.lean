/- slices.Insert, of rows of two cells: what it does, its slice seen whole. / slices.Insert, of rows of two cells: what it does to an own slice. / Numbers as bytes: plain laws. / Laying bytes: what each function does. / Taking bytes: what each function does. / What is read is what was laid, and the oth -/
import Derived.Test.YtofpmkhcbijilaaGreatDoorSlW
import Derived.Test.YtofpmkhcbijilaaGreatDoorPartPathsT
namespace Go.Proofs.YtofpmkhcbijilaaGreatDoorI
open Go
set_option linter.unusedSimpArgs false
set_option linter.unusedVariables false
section
attribute [local simp] J0 J1 J2 J3 J4 J5 J6 J7 J8 J9 Ja Jb Jc Jd Je Jf Jg Jh Ji Jj Jk Jl Jm Jn Jo Jp Jq Jr Js Jt Ju Jv Jw Jx Jy Jz JA JB JC JD JE JF JG JH JI JJ JK JL JM JN JO JP JQ JR JS bE bO.kind JT JU JV JW JX JY JZ Y0 Y1 Y2 Y3 Y4 Y5 Y6 Y7 Y8 Y9 Ya Yb Yc Yd Ye Yf Yg Yh Yi Yj Yk Yl Ym Yn Yo Yp Yq j3 Yr Ys Yt Yu Yv Yw Yx Yy gy di dI Yz YA YB YC YD YE fq YF YG YH YI YJ YK YL YM YN YO YP YQ YR YS YT YU sP bS kF qm bZ putAt aa.aj aa.aT aa.aK YV YW YX YY YZ B0 B1 B2 B3 B4 B5 B6 B7 B8 B9 Ba Bb Bc Bd Be Bf Bg Bh Bi Bj Bk Bl Bm Bn Bo Bp
section
theorem qcH {L F new:List Value}(h:L.take F.length=F)(hl:F.length+new.length≤L.length):((putAt L F.length new).take (F.length+new.length))=F++new:=by
 unfold putAt
 rw[h,List.take_append_of_le_length (by simp)]
 rw[List.take_of_length_le (by simp)]
theorem vN {L vs:List Value}{o:Nat}(h:o+vs.length≤L.length):(putAt L o vs).length=L.length:=by
 unfold putAt
 simp only[List.length_append,List.length_take,List.length_drop];omega
theorem qcI {L A B new:List Value}(h:L.take (A.length+B.length)=A++B)(hl:A.length+new.length+B.length≤L.length):
 (putAt (putAt L (A.length+new.length) B) A.length new).take (A.length+new.length+B.length)=A++new++B:=by
 have hA:L.take A.length=A:=by
  have:=congrArg (List.take A.length) h
  rwa[List.take_take,Nat.min_eq_left (by omega),List.take_left]at this
 have h1:(putAt L (A.length+new.length) B).take A.length=A:=by
  unfold putAt
  rw[List.append_assoc,List.take_append_of_le_length (by rw[List.length_take];omega),List.take_take,Nat.min_eq_left (by omega),hA]
 have h2:(putAt L (A.length+new.length) B).drop (A.length+new.length)=B++L.drop (A.length+new.length+B.length):=by
  unfold putAt
  rw[List.append_assoc,List.drop_append_of_le_length (by rw[List.length_take];omega),List.drop_of_length_le (by rw[List.length_take];omega),List.nil_append]
 unfold putAt at h1 h2 ⊢
 rw[h1,h2]
 rw[←List.append_assoc,List.take_append_of_le_length (by simp only[List.length_append];omega),List.take_of_length_le (by simp only[List.length_append];omega)]
section
variable (c:Ctx) (hc:bI c) (hO: ∀(H:aa) (K:Value→aa→Prop) (b1 o1 n1 c1 b2 o2 n2 c2:Nat) (cs1 cs2:List Value),b1≠b2→0<n1→0<n2→H.get b1=some (.cells cs1 false)→H.get b2=some (.cells cs2 false)→o1≤cs1.length→cs2≠[]→K (.bool false) H →
 c.C (c.F 221) [.slice (some ⟨b1,o1,none⟩) n1 c1,.slice (some ⟨b2,o2,none⟩) n2 c2] H K) {H:aa} {K:Value→aa→Prop}
include hc in
theorem qcJ {vb:Nat}{new:List Value}(hv:H.get vb=some (.cells new false))(hn:new.length=2)(hK:K (.slice (some ⟨H.next,0,none⟩) 1 (dQ+2)) (H.alloc (.cells new false))):
 c.C (c.F aW) [.slice none 0 0,.int .i64 0,.slice (some ⟨vb,0,none⟩) 1 1] H K:=by
 refine c.enter hc.gP rfl ?_
 have s0:bK H 2 none 0 0 0 0 none=some (.slice none 0 0):=by simp[bK,dQ]
 have f1:aY H 2 1 (.slice (some ⟨vb,0,none⟩) 1 1)=some new:=by simp[aY,aa.aT,hv,hn,List.take_of_length_le]
 have a1:bQ H 2 24 (.slice none 0 0) 1 new=some (.slice (some ⟨H.next,0,none⟩) 1 (dQ+2),H.alloc (.cells new false)):=by simp[bQ,hn]
 simp -implicitDefEqProofs [aM,bH,gK,s0,iN,f1,a1]
 exact hK
include hc hO in
theorem Xf {b cp n i vb:Nat}{L A B new:List Value}(hb:H.get b=some (.cells L false))(hv:H.get vb=some (.cells new false))(hne:vb≠b)(hvl:vb<H.next)(hbl:b<H.next)(hn:new.length=2)(hn1:new.all fo=true)
 (hA:A.length=i*2) (hB:B.length=(n-i)*2) (hin:i≤n) (hnl:n≤1000000) (hcp:n≤cp) (yE:cp<dQ) (hL:L.take (A.length+B.length)=A++B) (hroom:cp=0∨cp*2≤L.length) (hone:(A++B).all fo=true)
 (hK1: ∀L' H',n+1≤cp→L'.length=L.length→L'.take ((n+1)*2)=A++new++B→H'.next=H.next→H'.get b=some (.cells L' false)→(∀x,x≠b→H'.get x=H.get x)→K (.slice (some ⟨b,0,none⟩) (n+1) cp) H')
 (hK2: ∀H',H.le H'→H'.next=H.next+1→H'.get H.next=some (.cells (A++new++B) false)→K (.slice (some ⟨H.next,0,none⟩) (n+1) (dQ+2)) H'):
 c.C (c.F aW) [.slice (some ⟨b,0,none⟩) n cp,.int .i64 i,.slice (some ⟨vb,0,none⟩) 1 1] H K:=by
 refine c.enter hc.gP rfl ?_
 have hAB:A.length+B.length=n*2:=by rw[hA,hB];omega
 obtain⟨x0,hx0⟩: ∃x,bK H 2 (some ⟨b,0,none⟩) n cp i n none=some x:=by
  unfold bK
  rw[if_pos yE,if_pos (by simp;omega)]
  exact⟨_,rfl⟩
 have hi0:(0:Int)≤(i:Int):=by omega
 have f1:aY H 2 1 (.slice (some ⟨vb,0,none⟩) 1 1)=some new:=by simp[aY,aa.aT,hv,hn,List.take_of_length_le]
 by_cases hie:i=n
 ·subst hie
  have hBn:B=[]:=List.length_eq_zero_iff.1 (by rw[hB];omega)
  subst hBn
  rw[List.append_nil]at hL hone hK1 hK2
  rw[List.length_nil,Nat.add_zero]at hL hAB
  by_cases hr:i+1≤cp
  ·have hcl:cp*2≤L.length:=hroom.resolve_left (by omega)
   obtain⟨L1,hL1⟩: ∃L1,L1=putAt L (i*2) new:=⟨_,rfl⟩
   have a1:bQ H 2 24 (.slice (some ⟨b,0,none⟩) i cp) 1 new=some (.slice (some ⟨b,0,none⟩) (i+1) cp,H.set b (.cells L1 false)):=by
    simp only[bQ,aa.aK,hb]
    rw[if_pos ⟨by omega,by omega,by omega,by omega,by omega⟩,if_neg (by omega),if_pos ⟨yE,hr⟩,if_pos ⟨by omega,hn1⟩,hL1]
    simp
   simp -implicitDefEqProofs [aM,bH,gK,hx0,iN,f1,a1]
   refine hK1 L1 _ hr (by rw[hL1];exact vN (by omega)) ?_ rfl (by rw[YW,if_pos rfl]) fun x hx=>by rw[YW,if_neg hx]
   have:=qcH (L:=L) (F:=A) (new:=new) hL (by omega)
   rw[hA,hn]at this
   rw[show(i+1)*2=i*2+2 by omega,hL1]
   exact this
  ·have f2:aY H 2 i (.slice (some ⟨b,0,none⟩) i cp)=some A:=by
    simp only[aY,aa.aT,hb]
    by_cases hz:i*2=0
    ·rw[if_pos hz]
     have:A=[]:=List.length_eq_zero_iff.1 (by rw[hA];exact hz)
     rw[this]
    ·rw[if_neg hz,if_pos (by have:=congrArg List.length hL;rw[List.length_take]at this;omega),List.drop_zero,←hA,hL]
   have a1:bQ H 2 24 (.slice (some ⟨b,0,none⟩) i cp) 1 new=some (.slice (some ⟨H.next,0,none⟩) (i+1) (dQ+2),H.alloc (.cells (A++new) false)):=by
    simp only[bQ,f2]
    rw[if_pos ⟨by omega,by omega,by omega,by omega,by omega⟩,if_neg (by omega),if_neg (by omega),if_pos yE]
   simp -implicitDefEqProofs [aM,bH,gK,hx0,iN,f1,a1]
   exact hK2 _ (H.ax _) rfl (by rw[YV,if_pos rfl])
 ·have hilt:i<n:=by omega
  have hcl:cp*2≤L.length:=hroom.resolve_left (by omega)
  have qhD: ¬ (i:Int)=(n:Int):=by omega
  have w1:IntKind.i64.wrap ((n:Int)+1)=(n:Int)+1:=wrap64 (by omega) (by omega)
  have w2:IntKind.i64.wrap ((i:Int)+1)=(i:Int)+1:=wrap64 (by omega) (by omega)
  have q1:(0:Int)≤(n:Int)+1:=by omega
  have q2:(0:Int)≤(i:Int)+1:=by omega
  have t1:((n:Int)+1).toNat=n+1:=by omega
  have t2:((i:Int)+1).toNat=i+1:=by omega
  have hLn:n*2≤L.length:=by omega
  have hLA:(L.take A.length)=A:=by
   have:=congrArg (List.take A.length) hL
   rwa[List.take_take,Nat.min_eq_left (by omega),List.take_left]at this
  have hLB:(L.drop (i*2)).take ((n-i)*2)=B:=by
   have:=congrArg (List.drop A.length) hL
   rw[List.drop_left,List.drop_take,Nat.add_sub_cancel_left,hA,hB]at this
   exact this
  have hBn:0<(n-i)*2:=by omega
  have hn1': ∀x ∈ new,fo x=true:=List.all_eq_true.1 hn1
  have hnn: ¬ new=[]:=by intro e;rw[e]at hn;simp at hn
  have qhE: ¬ B=[]:=by intro e;rw[e]at hB;simp at hB;omega
  have hB1:B.all fo=true:=by rw[List.all_append,Bool.and_eq_true]at hone;exact hone.2
  have qlD: ∀x ∈ B,fo x=true:=List.all_eq_true.1 hB1
  by_cases hr:n+1≤cp
  ·have hrI: ¬ (cp:Int)<(n:Int)+1:=by omega
   have s60:bK H 2 (some ⟨b,0,none⟩) n cp 0 (n+1) none=some (.slice (some ⟨b,0,none⟩) (n+1) cp):=by
    unfold bK
    rw[if_pos yE,if_pos (by simp;omega)]
    simp only[Option.getD_none,Nat.sub_zero]
    rw[if_neg (by omega)]
    simp[Addr.add]
   have sI: ∀(X:aa) (k:Nat),k≤n→bK X 2 (some ⟨b,0,none⟩) (n+1) cp k (n+1) none=some (.slice (some ⟨b,k*2,none⟩) (n+1-k) (cp-k)):=by
    intro X k hk
    unfold bK
    rw[if_pos yE,if_pos (by simp;omega)]
    simp only[Option.getD_none]
    rw[if_neg (by omega)]
    simp only[addr_add,Nat.zero_add]
   have s66:=sI H (i+1) (by omega)
   have s76:=sI H i (by omega)
   have e1:n+1-(i+1)=n-i:=by omega
   rw[e1]at s66
   have ii:i≤n+1:=by omega
   have ii2:i+1≤n+1:=by omega
   have m1:Nat.min (n+1-i) (n-i)=n-i:=Nat.min_eq_right (by omega)
   have m2:Nat.min 1 (n+1-i)=1:=Nat.min_eq_left (by omega)
   have m1':min (n+1-i) (n-i)=n-i:=Nat.min_eq_right (by omega)
   have m2':min 1 (n+1-i)=1:=Nat.min_eq_left (by omega)
   have fB:aY H 2 (n-i) (.slice (some ⟨b,i*2,none⟩) (n+1-i) (cp-i))=some B:=by
    simp only[aY,aa.aT,hb]
    rw[if_neg (by omega),if_pos (by omega),hLB]
   have hBl: ¬ B.length=0:=by omega
   have qlb: ¬ new.length=0:=by omega
   obtain⟨L1,hL1⟩: ∃L1,L1=putAt L ((i+1)*2) B:=⟨_,rfl⟩
   have l1:L1.length=L.length:=by rw[hL1];exact vN (by omega)
   have st1:H.aK b ((i+1)*2) B=some (H.set b (.cells L1 false)):=by
    simp only[aa.aK,hb]
    rw[if_pos ⟨by omega,hB1⟩,hL1]
   obtain⟨H1,hH1⟩: ∃X:aa,X=H.set b (.cells L1 false):=⟨_,rfl⟩
   rw[←hH1]at st1
   have g1:H1.get b=some (.cells L1 false):=by rw[hH1,YW,if_pos rfl]
   have gv:H1.get vb=some (.cells new false):=by rw[hH1,YW,if_neg hne];exact hv
   have f2:aY H1 2 1 (.slice (some ⟨vb,0,none⟩) 1 1)=some new:=by simp[aY,aa.aT,gv,hn,List.take_of_length_le]
   have s80:=sI H1 i (by omega)
   obtain⟨L2,hL2⟩: ∃L2,L2=putAt L1 (i*2) new:=⟨_,rfl⟩
   have st2:H1.aK b (i*2) new=some (H1.set b (.cells L2 false)):=by
    simp only[aa.aK,g1]
    rw[if_pos ⟨by omega,hn1⟩,hL2]
   simp -implicitDefEqProofs [aM,bH,gK,hin,hx0,iN,hie,qhD,w1,w2,yE,hrI,q1,q2,t1,t2,s60,s66,ii,ii2]
   refine ai (hO _ _ _ _ _ _ _ _ _ _ _ _ hne (by omega) (by omega) hv hb (by omega) (by intro e;rw[e]at hcl;simp at hcl;omega) ?_)
   have k1:(i+1)*2+B.length≤L.length:=by omega
   have k2:i*2+new.length≤L1.length:=by omega
   have fo1:List.take ((i+1)*2) L++(B++List.drop ((i+1)*2+B.length) L)=L1:=by rw[hL1,putAt,List.append_assoc]
   have fo2:List.take (i*2) L1++(new++List.drop (i*2+new.length) L1)=L2:=by rw[hL2,putAt,List.append_assoc]
   simp -implicitDefEqProofs [bH,gK,w2,q2,t2,s66,s76,ii,ii2,iN,m1,m1',fB,qhE,hb,k1,hB1,fo1,←hH1,s80,m2,m2',f2,hnn,g1,k2,hn1,fo2,-List.all_eq_true]
   have nx:(H1.set b (.cells L2 false)).next=H.next:=by rw[hH1];rfl
   refine hK1 L2 _ hr (by rw[hL2,vN (by omega),l1]) ?_ nx (by rw[YW,if_pos rfl]) fun x hx=>by rw[YW,if_neg hx,hH1,YW,if_neg hx]
   have:=qcI (L:=L) (A:=A) (B:=B) (new:=new) hL (by omega)
   rw[hA,hn,hB,show i*2+2=(i+1)*2 by omega,←hL1,←hL2]at this
   rw[show(n+1)*2=(i+1)*2+(n-i)*2 by omega]
   exact this
  ·have hrI:(cp:Int)<(n:Int)+1:=by omega
   have w3:IntKind.i64.wrap ((n:Int)+1-(i:Int))=(n:Int)+1-(i:Int):=wrap64 (by omega) (by omega)
   obtain⟨kk,hkk⟩: ∃kk,kk=n+1-i:=⟨_,rfl⟩
   have c1:(0:Int)≤(n:Int)+1-(i:Int):=by omega
   have c2:((n:Int)+1-(i:Int))*24≤17592186044416:=by omega
   have c3:(n:Int)+1-(i:Int)≤17592186044416:=by omega
   have c4:((n:Int)+1-(i:Int)).toNat=kk:=by omega
   have s34:bK H 2 (some ⟨b,0,none⟩) n cp 0 i none=some (.slice (some ⟨b,0,none⟩) i cp):=by
    unfold bK
    rw[if_pos yE,if_pos (by simp;omega)]
    simp only[Option.getD_none,Nat.sub_zero]
    rw[if_neg (by omega)]
    simp[Addr.add]
   obtain⟨Z,hZ⟩: ∃Z,Z=(Builtin.zeroCells #[Value.string ⟨#[]⟩,.int .i64 0] kk).toList:=⟨_,rfl⟩
   have hZl:Z.length=kk*2:=by rw[hZ,Array.length_toList,mJ];rfl
   have fA:aY H 2 i (.slice (some ⟨b,0,none⟩) i cp)=some A:=by
    simp only[aY,aa.aT,hb]
    by_cases hz:i*2=0
    ·rw[if_pos hz]
     have:A=[]:=List.length_eq_zero_iff.1 (by rw[hA];exact hz)
     rw[this]
    ·rw[if_neg hz,if_pos (by omega),List.drop_zero,←hA,hLA]
   obtain⟨H1,hH1⟩: ∃X:aa,X=H.alloc (.cells (A++Z) false):=⟨_,rfl⟩
   have a1:bQ H 2 24 (.slice (some ⟨b,0,none⟩) i cp) kk Z=some (.slice (some ⟨H.next,0,none⟩) (n+1) (dQ+2),H1):=by
    simp only[bQ,fA]
    rw[if_pos ⟨by omega,by omega,by omega,by omega,by omega⟩,if_neg (by omega),if_neg (by omega),if_pos yE,hH1,show i+kk=n+1 by omega]
   have g1:H1.get H.next=some (.cells (A++Z) false):=by rw[hH1,YV,if_pos rfl]
   have gb1:H1.get b=some (.cells L false):=by rw[hH1,YV,if_neg (by omega)];exact hb
   have gv1:H1.get vb=some (.cells new false):=by rw[hH1,YV,if_neg (by omega)];exact hv
   have sG: ∀(X:aa) (k:Nat),k≤n→bK X 2 (some ⟨H.next,0,none⟩) (n+1) (dQ+2) k (n+1) none=some (.slice (some ⟨H.next,k*2,none⟩) (n+1-k) (dQ+2)):=by
    intro X k hk
    unfold bK
    rw[if_neg (by omega)]
    simp
   have s43:=sG H1 i (by omega)
   have f1':aY H1 2 1 (.slice (some ⟨vb,0,none⟩) 1 1)=some new:=by simp[aY,aa.aT,gv1,hn,List.take_of_length_le]
   obtain⟨L1,hL1⟩: ∃L1,L1=putAt (A++Z) (i*2) new:=⟨_,rfl⟩
   have l1:L1.length=(n+1)*2:=by rw[hL1,vN (by rw[List.length_append];omega),List.length_append];omega
   obtain⟨H2,hH2⟩: ∃X:aa,X=H1.set H.next (.cells L1 false):=⟨_,rfl⟩
   have st1:H1.aK H.next (i*2) new=some H2:=by
    simp only[aa.aK,g1]
    rw[if_pos ⟨by rw[List.length_append];omega,hn1⟩,hH2,hL1]
   have g2:H2.get H.next=some (.cells L1 false):=by rw[hH2,YW,if_pos rfl]
   have gb2:H2.get b=some (.cells L false):=by rw[hH2,YW,if_neg (by omega)];exact gb1
   have s50:=sG H2 (i+1) (by omega)
   rw[show n+1-(i+1)=n-i by omega]at s50
   have s53:bK H2 2 (some ⟨b,0,none⟩) n cp i n none=some (.slice (some ⟨b,i*2,none⟩) (n-i) (cp-i)):=by
    unfold bK
    rw[if_pos yE,if_pos (by simp;omega)]
    simp only[Option.getD_none]
    rw[if_neg (by omega)]
    simp only[addr_add,Nat.zero_add]
   have fB:aY H2 2 (n-i) (.slice (some ⟨b,i*2,none⟩) (n-i) (cp-i))=some B:=by
    simp only[aY,aa.aT,gb2]
    rw[if_neg (by omega),if_pos (by omega),hLB]
   obtain⟨L2,hL2⟩: ∃L2,L2=putAt L1 ((i+1)*2) B:=⟨_,rfl⟩
   have st2:H2.aK H.next ((i+1)*2) B=some (H2.set H.next (.cells L2 false)):=by
    simp only[aa.aK,g2]
    rw[if_pos ⟨by omega,hB1⟩,hL2]
   have ii:i≤n+1:=by omega
   have ii2:i+1≤n+1:=by omega
   have m1:Nat.min (n-i) (n-i)=n-i:=Nat.min_self _
   have m2:Nat.min 1 (n+1-i)=1:=Nat.min_eq_left (by omega)
   have m2':min 1 (n+1-i)=1:=Nat.min_eq_left (by omega)
   have hBl: ¬ B.length=0:=by omega
   have qlb: ¬ new.length=0:=by omega
   have hE:L2=A++new++B:=by
    have e1:L1=A++new++Z.drop 2:=by
     rw[hL1]
     unfold putAt
     rw[←hA,List.take_left,List.drop_append,List.drop_of_length_le (by omega),hn,Nat.add_sub_cancel_left]
     simp
    have l3:L2.length=L1.length:=by rw[hL2];exact vN (by omega)
    rw[hL2]
    unfold putAt
    have e2:(i+1)*2=(A++new).length:=by rw[List.length_append];omega
    rw[List.drop_of_length_le (by omega),List.append_nil,e2]
    conv=>lhs;rw[e1]
    rw[List.take_left]
   have c1':(i:Int)≤(n:Int)+1:=by omega
   have hAZ:(A++Z).length=(n+1)*2:=by rw[List.length_append];omega
   obtain⟨Y,hY⟩: ∃Y,Y=A++Z:=⟨_,rfl⟩
   rw[←hY]at g1 hL1 hAZ
   have k1:i*2+new.length≤Y.length:=by omega
   have k2:(i+1)*2+B.length≤L1.length:=by omega
   have fo1:List.take (i*2) Y++(new++List.drop (i*2+new.length) Y)=L1:=by rw[hL1,putAt,List.append_assoc]
   have fo2:List.take ((i+1)*2) L1++(B++List.drop ((i+1)*2+B.length) L1)=L2:=by rw[hL2,putAt,List.append_assoc]
   simp -implicitDefEqProofs [aM,bH,gK,hin,hx0,iN,hie,qhD,w1,w2,w3,yE,hrI,s34,c1,c1',c2,c3,c4,←hZ,a1,s43,ii,q2,t2,m2,m2',f1',hnn,g1,k1,hn1,fo1,←hH2,ii2,s50,s53,m1,fB,qhE,g2,k2,hB1,fo2,-List.all_eq_true]
   refine hK2 _ (by rw[hH2,hH1];exact((H.ax _).set (Nat.le_refl _) _).set (Nat.le_refl _) _) (by rw[hH2,hH1];rfl) (by rw[YW,if_pos rfl,hE])
end
end
end
section
def VS (H:aa)(q:Nat)(u:Value)(rows:List (List Value)):Prop:=(rows=[]∧u = .slice none 0 0)∨∃cs,q<H.next∧u = .slice (some ⟨q,0,none⟩) rows.length (dQ+2)∧H.get q=some (.cells cs false)∧cs.take (rows.length*2)=rows.flatten∧rows.length*2≤cs.length
theorem VS.upd {H H':aa}{S:List Nat}{q:Nat}{u:Value}{rows:List (List Value)}(h:VS H q u rows)(hu:aa.upd S H H')(hq:q ∉ S):VS H' q u rows:=by
 rcases h with h|⟨cs,a,b,c,d,e⟩
 ·exact .inl h
 ·exact .inr ⟨cs,Nat.lt_of_lt_of_le a hu.next,b,(hu.get q a hq).trans c,d,e⟩
theorem VS.le {H H':aa}{q:Nat}{u:Value}{rows:List (List Value)}(h:VS H q u rows)(hu:H.le H'):VS H' q u rows:=h.upd (hu.upd []) (by simp)
theorem VS.Xe {H:aa}{q:Nat}{u:Value}{rows:List (List Value)}(h:VS H q u rows)(h4: ∀r ∈ rows,r.length=2):Cq H 2 u rows:=by
 rcases h with⟨rfl,rfl⟩|⟨cs,a,rfl,c,d,e⟩
 ·exact Cq.nil H 2
 ·refine⟨⟨_,_,rfl,fun _=>⟨q,0,cs,false,rfl,a,c,fun i r hr=> ?_⟩⟩,_,_,rfl,.inr ⟨_,_,rfl⟩,.inr ⟨rfl,by simp⟩⟩
  obtain⟨f1,f2⟩:=EE rows 2 i r h4 hr
  have hfl:=gW rows 2 h4
  refine⟨h4 r (List.mem_of_getElem? hr),?_,by omega⟩
  rw[←f1,←d,Nat.zero_add,List.drop_take,List.take_take,Nat.min_eq_left (by omega)]
theorem VS.qaG {H:aa}{q:Nat}{u:Value}{rows:List (List Value)}(h:VS H q u rows): ∃a cap,u = .slice a rows.length cap:=by
 rcases h with⟨rfl,rfl⟩|⟨cs,_,rfl,_⟩
 ·exact⟨_,_,rfl⟩
 ·exact⟨_,_,rfl⟩
theorem vO (rows:List (List Value))(i:Nat):rows.flatten=(rows.take i).flatten++(rows.drop i).flatten:=by
 conv=>lhs;rw[←List.take_append_drop i rows]
 rw[List.flatten_append]
section
variable (c c0:Ctx) (hc:bI c0) (hO: ∀(H:aa) (K:Value→aa→Prop) (b1 o1 n1 c1 b2 o2 n2 c2:Nat) (cs1 cs2:List Value),b1≠b2→0<n1→0<n2→H.get b1=some (.cells cs1 false)→H.get b2=some (.cells cs2 false)→o1≤cs1.length→cs2≠[]→K (.bool false) H →
 c0.C (c0.F 221) [.slice (some ⟨b1,o1,none⟩) n1 c1,.slice (some ⟨b2,o2,none⟩) n2 c2] H K)
 (hX: ∀(s:Value) (r:List Value) (H:aa) (K:Value→aa→Prop),K8 H 2 s (fun t H1=>c0.C (c0.F aW) (t::r) H1 fun v H2=>Hide H2 2 v K)→c.C (c.F aW) (s::r) H K)
 {H:aa} {K:Value→aa→Prop}
include hc hO hX in
theorem qer {q vb i:Nat}{u:Value}{rows:List (List Value)}{new:List Value}(hu:VS H q u rows)(h4: ∀r ∈ rows,r.length=2)(hone:rows.flatten.all fo=true)
 (hv:H.get vb=some (.cells new false)) (hvl:vb<H.next) (hne:vb≠q) (hn:new.length=2) (hn1:new.all fo=true) (hi:i≤rows.length) (hl:rows.length≤1000000)
 (hK: ∀q' H',aa.upd [q] H H'→H.next≤q'→VS H' q' (.slice (some ⟨q',0,none⟩) (rows.length+1) (dQ+2)) (rows.take i++new::rows.drop i)→K (.slice (some ⟨q',0,none⟩) (rows.length+1) (dQ+2)) H'):
 c.C (c.F aW) [u,.int .i64 i,.slice (some ⟨vb,0,none⟩) 1 1] H K:=by
 refine hX u _ H K ?_
 have hlen:(rows.take i++new::rows.drop i).length=rows.length+1:=by simp;omega
 have qdl:(rows.take i++new::rows.drop i).flatten=(rows.take i).flatten++new++(rows.drop i).flatten:=by rw[List.flatten_append,List.flatten_cons,List.append_assoc]
 have hA:((rows.take i).flatten).length=i*2:=by rw[gW _ 2 fun r hr=>h4 r (List.mem_of_mem_take hr),List.length_take];omega
 have hB:((rows.drop i).flatten).length=(rows.length-i)*2:=by rw[gW _ 2 fun r hr=>h4 r (List.mem_of_mem_drop hr),List.length_drop]
 have hall:((rows.take i).flatten++new++(rows.drop i).flatten).length=(rows.length+1)*2:=by simp only[List.length_append];omega
 rcases hu with⟨rfl,rfl⟩|⟨cs,hq,rfl,hg,hcs,hcl⟩
 ·refine .inl ⟨rfl,?_⟩
  have hi0:i=0:=by simpa using hi
  subst hi0
  refine qcJ c0 hc hv hn (.inl (hK H.next _ ((H.ax _).upd _) (Nat.le_refl _) (.inr ⟨new,by simp[YX],rfl,by rw[YV,if_pos rfl],by simp[hn,List.take_of_length_le],by simp[hn]⟩)))
 ·refine .inr ⟨q,0,rows.length,cs,rfl,hg,fun cp junk hcp yE hroom=> ?_⟩
  have hR: ∀x,x<H.next→x≠q→((H.set q .dead).alloc (.cells (cs++junk) false)).get x=H.get x:=fun x h1 h2=>by
   rw[YV,YY,if_neg (by omega),YW,if_neg h2]
  have hRn:((H.set q .dead).alloc (.cells (cs++junk) false)).next=H.next+1:=rfl
  have hRg:((H.set q .dead).alloc (.cells (cs++junk) false)).get H.next=some (.cells (cs++junk) false):=by rw[YV,YY,if_pos rfl]
  obtain⟨HR,hHR⟩: ∃X:aa,X=(H.set q .dead).alloc (.cells (cs++junk) false):=⟨_,rfl⟩
  rw[←hHR]at hR hRn hRg ⊢
  refine Xf c0 hc hO (A:=(rows.take i).flatten) (B:=(rows.drop i).flatten) hRg ((hR vb hvl hne).trans hv) (by omega) (by omega) (by omega) hn hn1 hA hB hi hl hcp yE ?_ (hroom.imp id fun h=>by omega) (by rw[←vO];exact hone) (fun L' H' hr hL1 hL2 hnx hgb hoth=> ?_) (fun H' hle hnx hgn=> ?_)
  ·rw[←vO,←hcs,hA,hB,show i*2+(rows.length-i)*2=rows.length*2 by omega,List.take_append_of_le_length hcl]
  ·have qlE:0+cp*2≤(cs++junk).length:=hroom.resolve_left (by omega)
   refine .inr ⟨H.next,0,rows.length+1,cp,L',rfl,yE,hgb,hr,by omega,?_⟩
   rw[hnx,hRn]
   refine hK (H.next+1) _ ⟨by simp only[YX,YY];omega,fun x h1 h2=> ?_⟩ (by omega) (.inr ⟨_,by simp only[YX,YY];omega,by rw[hlen],by rw[YV,YY,if_pos (by omega)],?_,?_⟩)
   ·simp only[List.mem_singleton]at h2
    rw[YV,YY,if_neg (by omega),YW,if_neg (by omega),hoth x (by omega),hR x h1 h2]
   ·rw[hlen,List.drop_zero,List.take_take,Nat.min_self,hL2,qdl]
   ·rw[hlen,List.drop_zero,hL2,hall];exact Nat.le_refl _
  ·rw[hRn]at hgn ⊢
   refine .inl (hK (H.next+1) H' ⟨by have:=hle.next;omega,fun x h1 h2=> ?_⟩ (by omega) (.inr ⟨_,by omega,by rw[hlen],hgn,?_,?_⟩))
   ·simp only[List.mem_singleton]at h2
    rw[hle.get x (by omega),hR x h1 h2]
   ·rw[hlen,qdl,List.take_of_length_le (by omega)]
   ·rw[hlen,hall];exact Nat.le_refl _
end
end
def Fu (x:UInt8):Value:=.int .u8 (x.toNat:Nat)
def fV (x:UInt8):List Value:=[Fu x]
def enc (u:Nat):List UInt8:=if u<128 then [UInt8.ofNat u]else UInt8.ofNat (u % 128+128)::enc (u/128)
termination_by u
decreasing_by omega
def zz (n:Int):Nat:=if 0≤n then (2*n).toNat else (-2*n-1).toNat
def Xg (u:Nat):Int:=if u % 2=0 then ((u/2:Nat):Int)else -((u/2:Nat):Int)-1
def encI (n:Int):List UInt8:=enc (zz n)
theorem qcK (n:Int):Xg (zz n)=n:=by
 unfold zz Xg
 split <;> split <;> omega
theorem qaH {n:Int}(h1: -9223372036854775808≤n)(h2:n<9223372036854775808):zz n<18446744073709551616:=by
 unfold zz
 split <;> omega
theorem yQ {u:Nat}(h:u<128):enc u=[UInt8.ofNat u]:=by rw[enc,if_pos h]
theorem Qq {u:Nat}(h: ¬ u<128):enc u=UInt8.ofNat (u % 128+128)::enc (u/128):=by rw[enc,if_neg h]
theorem qes (u:Nat):enc u≠[]:=by rw[enc];split <;> simp
theorem VD: ∀(k u:Nat),u<128 ^ (k+1)→(enc u).length≤k+1
 |0,u,h=>by rw[yQ (by simpa using h)];simp
 |k+1,u,h=>by
  by_cases hu:u<128
  ·rw[yQ hu];simp
  ·rw[Qq hu]
   have:=VD k (u/128) (by rw[Nat.pow_succ]at h;omega)
   simp;omega
theorem bN {n:Int}(h1: -9223372036854775808≤n)(h2:n<9223372036854775808):(encI n).length≤10:=
 VD 9 _ (by have:=qaH h1 h2;have e:(128:Nat) ^ (9+1)=1180591620717411303424:=by decide
            omega)
theorem qcL (n:Int):encI n≠[]:=qes _
def dec (i u:Nat):List UInt8→Option (Nat×Nat)
 |[]=>none
 |b::s=>
  if 128≤b.toNat then (if 9≤i then none else dec (i+1) (u+(b.toNat-128)*128 ^ i) s)
  else if (0<i∧b.toNat=0)∨(i=9∧1<b.toNat)then none
  else some (u+b.toNat*128 ^ i,i+1)
theorem OA: ∀(s:List UInt8) (i u w n:Nat),i≤9→u<128 ^ i→dec i u s=some (w,n)→w<18446744073709551616∧i<n∧n≤i+s.length∧n≤10
 |[],_,_,_,_,_,_,h=>by simp[dec]at h
 |b::s,i,u,w,n,hi,hu,h=>by
  have hb:=b.toNat_lt
  rw[dec]at h
  split at h
  ·split at h
   ·cases h
   ·have e:128 ^ (i+1)=128*128 ^ i:=by rw[Nat.pow_succ,Nat.mul_comm]
    have hx:(b.toNat-128)*128 ^ i≤127*128 ^ i:=Nat.mul_le_mul_right _ (by omega)
    have:=OA s (i+1) _ w n (by omega) (by omega) h
    simp only[List.length_cons];omega
  ·split at h
   ·cases h
   ·rename_i h1 h2
    simp only[Option.some.injEq,Prod.mk.injEq]at h
    obtain⟨rfl,rfl⟩:=h
    simp only[List.length_cons]
    refine⟨?_,by omega,by omega,by omega⟩
    by_cases h9:i=9
    ·subst h9
     have:b.toNat≤1:=by omega
     have hx:b.toNat*128 ^ 9≤1*128 ^ 9:=Nat.mul_le_mul_right _ this
     have e:(128:Nat) ^ 9=9223372036854775808:=by decide
     omega
    ·have hx:b.toNat*128 ^ i≤127*128 ^ i:=Nat.mul_le_mul_right _ (by omega)
     have hp:128 ^ i≤128 ^ 8:=Nat.pow_le_pow_right (by omega) (by omega)
     have e:(128:Nat) ^ 8=72057594037927936:=by decide
     omega
theorem VE: ∀(k i u w:Nat) (t:List UInt8),i+k=10→1≤k→w*128 ^ i<18446744073709551616→(w=0→i=0)→dec i u (enc w++t)=some (u+w*128 ^ i,i+(enc w).length)
 |0,_,_,_,_,_,h,_,_=>by omega
 |k+1,i,u,w,t,hk,_,hw,h0=>by
  by_cases hs:w<128
  ·rw[yQ hs]
   have e:(UInt8.ofNat w).toNat=w:=by simp;omega
   simp only[List.cons_append,List.nil_append,dec,e,List.length_singleton]
   rw[if_neg (by omega),if_neg]
   rintro(⟨h1,h2⟩|⟨h1,h2⟩)
   ·have:=h0 h2;omega
   ·subst h1
    have hx:2*128 ^ 9≤w*128 ^ 9:=Nat.mul_le_mul_right _ (by omega)
    have e:(128:Nat) ^ 9=9223372036854775808:=by decide
    omega
  ·rw[Qq hs]
   have e:(UInt8.ofNat (w % 128+128)).toNat=w % 128+128:=by simp;omega
   have hi: ¬ 9≤i:=by
    intro h9
    have:i=9:=by omega
    subst this
    have hx:128*128 ^ 9≤w*128 ^ 9:=Nat.mul_le_mul_right _ (by omega)
    have e:(128:Nat) ^ 9=9223372036854775808:=by decide
    omega
   simp only[List.cons_append,dec,e,List.length_cons]
   rw[if_pos (by omega),if_neg hi]
   have e1:128 ^ (i+1)=128*128 ^ i:=by rw[Nat.pow_succ,Nat.mul_comm]
   have e2:w/128*128 ^ (i+1)=(w/128*128)*128 ^ i:=by rw[e1,Nat.mul_assoc]
   have e3:w*128 ^ i=(w/128*128)*128 ^ i+(w % 128)*128 ^ i:=by rw[←Nat.add_mul];congr 1;omega
   rw[VE k (i+1) _ (w/128) t (by omega) (by omega) (by omega) (by omega)]
   simp only[Option.some.injEq,Prod.mk.injEq]
   refine⟨?_,by omega⟩
   have:w % 128+128-128=w % 128:=by omega
   rw[this];omega
theorem qaI {n:Int}(h1: -9223372036854775808≤n)(h2:n<9223372036854775808)(t:List UInt8):dec 0 0 (encI n++t)=some (zz n,(encI n).length):=by
 have:=VE 10 0 0 (zz n) t rfl (by omega) (by simpa using qaH h1 h2) (by simp)
 simpa[encI]using this
theorem Sm {n:Int}(h:0≤n)(k:n<18446744073709551616):IntKind.u64.wrap n=n:=by
 have e1:(2 ^ IntKind.u64.bits:Int)=18446744073709551616:=by decide
 unfold IntKind.wrap
 simp only[e1,IntKind.signed,Bool.false_and]
 rw[if_neg (by simp)]
 omega
theorem uB (n:Int):IntKind.u64.wrap n=n % 18446744073709551616:=by
 have e1:(2 ^ IntKind.u64.bits:Int)=18446744073709551616:=by decide
 unfold IntKind.wrap
 simp only[e1,IntKind.signed,Bool.false_and]
 rw[if_neg (by simp)]
theorem Gz (n:Int):IntKind.u8.wrap n=n % 256:=by
 have e1:(2 ^ IntKind.u8.bits:Int)=256:=by decide
 unfold IntKind.wrap
 simp only[e1,IntKind.signed,Bool.false_and]
 rw[if_neg (by simp)]
theorem Sn (a:Nat)(h:a<18446744073709551616):(BitVec.ofNat 64 a ^^^ BitVec.ofNat 64 18446744073709551615).toNat=18446744073709551615-a:=by
 have:(BitVec.ofNat 64 18446744073709551615)=BitVec.allOnes 64:=by decide
 rw[this,BitVec.xor_allOnes,BitVec.toNat_not,BitVec.toNat_ofNat,Nat.mod_eq_of_lt h]
theorem qhF {a b:Nat}(h:a<18446744073709551616)(k:b<18446744073709551616):Wp .u64 (a:Int) (b:Int)=((a ^^^ b:Nat):Int):=by
 show IntKind.u64.wrap (((BitVec.ofInt 64 (a:Int) ^^^ BitVec.ofInt 64 (b:Int)).toNat:Nat):Int)=_
 have e:(BitVec.ofInt 64 (a:Int) ^^^ BitVec.ofInt 64 (b:Int)).toNat=a ^^^ b:=by
  rw[BitVec.toNat_xor,BitVec.ofInt_natCast,BitVec.ofInt_natCast,BitVec.toNat_ofNat,BitVec.toNat_ofNat,Nat.mod_eq_of_lt h,Nat.mod_eq_of_lt k]
 have hlt:a ^^^ b<2 ^ 64:=Nat.xor_lt_two_pow h k
 rw[e]
 exact Sm (by omega) (by omega)
theorem orU {a b:Nat}(h:a<18446744073709551616)(k:b<18446744073709551616):orW .u64 (a:Int) (b:Int)=((a ||| b:Nat):Int):=by
 show IntKind.u64.wrap (((BitVec.ofInt 64 (a:Int) ||| BitVec.ofInt 64 (b:Int)).toNat:Nat):Int)=_
 have e:(BitVec.ofInt 64 (a:Int) ||| BitVec.ofInt 64 (b:Int)).toNat=a ||| b:=by
  rw[BitVec.toNat_or,BitVec.ofInt_natCast,BitVec.ofInt_natCast,BitVec.toNat_ofNat,BitVec.toNat_ofNat,Nat.mod_eq_of_lt h,Nat.mod_eq_of_lt k]
 have hlt:a ||| b<2 ^ 64:=Nat.or_lt_two_pow h k
 rw[e]
 exact Sm (by omega) (by omega)
theorem qhG {a b:Nat}(h:a<18446744073709551616)(k:b<18446744073709551616):ZQ .u64 (a:Int) (b:Int)=((a &&& b:Nat):Int):=by
 show IntKind.u64.wrap (((BitVec.ofInt 64 (a:Int) &&& BitVec.ofInt 64 (b:Int)).toNat:Nat):Int)=_
 have e:(BitVec.ofInt 64 (a:Int) &&& BitVec.ofInt 64 (b:Int)).toNat=a &&& b:=by
  rw[BitVec.toNat_and,BitVec.ofInt_natCast,BitVec.ofInt_natCast,BitVec.toNat_ofNat,BitVec.toNat_ofNat,Nat.mod_eq_of_lt h,Nat.mod_eq_of_lt k]
 have hlt:a &&& b<2 ^ 64:=Nat.lt_of_le_of_lt Nat.and_le_left h
 rw[e]
 exact Sm (by omega) (by omega)
theorem qet (a:Nat):a &&& 127=a % 128:=Nat.and_two_pow_sub_one_eq_mod a 7
theorem and1 (a:Nat):a &&& 1=a % 2:=Nat.and_two_pow_sub_one_eq_mod a 1
theorem xor_ones64 {a:Nat}(h:a<18446744073709551616):a ^^^ 18446744073709551615=18446744073709551615-a:=by
 have:=Sn a h
 rw[BitVec.toNat_xor,BitVec.toNat_ofNat,BitVec.toNat_ofNat,Nat.mod_eq_of_lt h]at this
 exact this
theorem qhH (a:Nat):Wq .u64 (a:Int) 1=((a*2 % 18446744073709551616:Nat):Int):=by
 have e:(2:Int) ^ min (Int.toNat 1) IntKind.u64.bits=2:=by decide
 unfold Wq
 rw[e,uB]
 omega
theorem qhI (a:Nat):Px .u64 (a:Int) 7=((a/128:Nat):Int):=by
 have e:(2:Int) ^ min (Int.toNat 7) IntKind.u64.bits=128:=by decide
 unfold Px
 rw[e,Int.fdiv_eq_ediv_of_nonneg _ (by omega)]
 omega
theorem qhJ (a:Nat):Px .u64 (a:Int) 1=((a/2:Nat):Int):=by
 have e:(2:Int) ^ min (Int.toNat 1) IntKind.u64.bits=2:=by decide
 unfold Px
 rw[e,Int.fdiv_eq_ediv_of_nonneg _ (by omega)]
 omega
theorem zzW {n:Int}(h1: -9223372036854775808≤n)(h2:n<9223372036854775808):Wp .u64 (Wq .u64 (IntKind.u64.wrap n) 1) (IntKind.u64.wrap (Px .i64 n 63))=(zz n:Int):=by
 have e:(2:Int) ^ min (Int.toNat 63) IntKind.i64.bits=9223372036854775808:=by decide
 have hz:=qaH h1 h2
 have hs:Px .i64 n 63=if 0≤n then 0 else -1:=by
  unfold Px
  rw[e,Int.fdiv_eq_ediv_of_nonneg _ (by omega)]
  split <;> omega
 rw[hs]
 by_cases hn:0≤n
 ·have e1:IntKind.u64.wrap n=((n.toNat:Nat):Int):=by rw[uB];omega
  have e2:IntKind.u64.wrap 0=((0:Nat):Int):=by decide
  have e3:zz n=n.toNat*2:=by unfold zz;rw[if_pos hn];omega
  rw[if_pos hn,e1,qhH,e2]
  rw[qhF (Nat.mod_lt _ (by omega)) (by omega),Nat.mod_eq_of_lt (by omega),Nat.xor_zero,e3]
 ·have e1:IntKind.u64.wrap n=(((n+18446744073709551616).toNat:Nat):Int):=by rw[uB];omega
  have e2:IntKind.u64.wrap (-1)=((18446744073709551615:Nat):Int):=by decide
  have e3:zz n=(-2*n-1).toNat:=by unfold zz;rw[if_neg hn]
  rw[if_neg hn,e1,qhH,e2]
  rw[qhF (Nat.mod_lt _ (by omega)) (by omega),xor_ones64 (Nat.mod_lt _ (by omega)),e3]
  omega
theorem qcM: ∀x:Fin 256,orW .u8 (x.val:Int) 128=((x.val % 128+128:Nat):Int):=by decide +kernel
theorem orB (u:Nat):orW .u8 (IntKind.u8.wrap (u:Int)) 128=(((UInt8.ofNat (u % 128+128)).toNat:Nat):Int):=by
 have e:IntKind.u8.wrap (u:Int)=((u % 256:Nat):Int):=by rw[Gz];omega
 have h:=qcM ⟨u % 256,Nat.mod_lt _ (by omega)⟩
 rw[e]
 simp only at h
 rw[h]
 simp only[UInt8.toNat_ofNat']
 omega
theorem qlc {u:Nat}(h:u<128):IntKind.u8.wrap (u:Int)=(((UInt8.ofNat u).toNat:Nat):Int):=by
 rw[Gz];simp only[UInt8.toNat_ofNat'];omega
theorem qhK (n:Int):IntKind.u8.wrap n=(((UInt8.ofNat (n % 256).toNat).toNat:Nat):Int):=by
 rw[Gz];simp only[UInt8.toNat_ofNat'];omega
section
attribute [local simp] J0 J1 J2 J3 J4 J5 J6 J7 J8 J9 Ja Jb Jc Jd Je Jf Jg Jh Ji Jj Jk Jl Jm Jn Jo Jp Jq Jr Js Jt Ju Jv Jw Jx Jy Jz JA JB JC JD JE JF JG JH JI JJ JK JL JM JN JO JP JQ JR JS bE bO.kind JT JU JV JW JX JY JZ Y0 Y1 Y2 Y3 Y4 Y5 Y6 Y7 Y8 Y9 Ya Yb Yc Yd Ye Yf Yg Yh Yi Yj Yk Yl Ym Yn Yo Yp Yq j3 Yr Ys Yt Yu Yv Yw Yx Yy gy di dI Yz YA YB YC YD YE fq YF YG YH YI YJ YK YL YM YN YO YP YQ YR YS YT YU sP bS kF qm bZ putAt aa.aj aa.aT aa.aK YV YW YX YY YZ B0 B1 B2 B3 B4 B5 B6 B7 B8 B9 Ba Bb Bc Bd Be Bf Bg Bh Bi Bj Bk Bl Bm Bn Bo Bp
section
section
variable (c:Ctx) (hc:eU c) {H:aa} {K:Value→aa→Prop}
include hc
theorem GA {B:Nat}{v:Value}{l:List UInt8}{n:Int}(h1: -9223372036854775808≤n)(h2:n<9223372036854775808)(hb:Buf H B 1 v (l.map fV))(hB:B≤H.next)(hl:l.length≤1000000000)
 (hK: ∀v' H',Own H' B 1 v' ((l++encI n).map fV)→aa.keep B H H'→K v' H'):c.C (c.F LJ) [v,.int .i64 n] H K:=by
 refine c.enter hc.Ql rfl ?_
 have hzz:=zzW h1 h2
 simp -implicitDefEqProofs [ry,hzz]
 refine cz c.mono (fun u T H'=> ∃(l':List UInt8) (v':Value),T 0=v'∧T 5 = .int .u64 u∧Buf H' B 1 v' (l'.map fV)∧aa.keep B H H'∧l'++enc u=l++encI n) (zz n) ?_ ?_
 ·exact⟨l,v,by simp -implicitDefEqProofs [],by simp -implicitDefEqProofs [],hb,aa.Gy _ _,rfl⟩
 ·rintro u T H' ⟨l',v',t0,t5,hb',hk,heq⟩
  have hll:l'.length≤l.length+10:=by
   have:=congrArg List.length heq
   have:=bN h1 h2
   simp only[List.length_append]at *
   omega
  have hkn:=hk.next
  by_cases hu:128≤u
  ·have hu':(128:Int)≤(u:Int):=by omega
   obtain⟨x,hor,hx⟩: ∃x:UInt8,orW .u8 (IntKind.u8.wrap (u:Int)) 128=((x.toNat:Nat):Int)∧x=UInt8.ofNat (u % 128+128):=⟨_,orB u,rfl⟩
   have hsh:=qhI u
   simp -implicitDefEqProofs [t0,t5,hu',hu,hor,iN,aY,aa.aT]
   obtain⟨v2,H2,e2,o2,k2⟩:=(hb'.le (H'.ax (.cells (fV x) false))).yP (bytes:=1) (new:=fV x) (by simp only[YX];omega) (by omega) (by omega) (by simp;omega) (by simp;omega) rfl rfl
   simp only[fV,Fu]at e2
   simp -implicitDefEqProofs [e2,t5,hsh]
   refine⟨u/128,by omega,by omega,l'++[x],by rw[List.map_append];exact .inr (.inr o2),hk.trans ((H'.ax _).keep (by omega) |>.trans k2),?_⟩
   rw[←heq,Qq (u:=u) (by omega),hx]
   simp
  ·have hu': ¬ (128:Int)≤(u:Int):=by omega
   obtain⟨x,hor,hx⟩: ∃x:UInt8,IntKind.u8.wrap (u:Int)=((x.toNat:Nat):Int)∧x=UInt8.ofNat u:=⟨_,qlc (by omega),rfl⟩
   simp -implicitDefEqProofs [t0,t5,hu',hu,hor,iN,aY,aa.aT]
   obtain⟨v2,H2,e2,o2,k2⟩:=(hb'.le (H'.ax (.cells (fV x) false))).yP (bytes:=1) (new:=fV x) (by simp only[YX];omega) (by omega) (by omega) (by simp;omega) (by simp;omega) rfl rfl
   simp only[fV,Fu]at e2
   simp -implicitDefEqProofs [e2]
   refine hK _ _ ?_ (hk.trans ((H'.ax _).keep (by omega) |>.trans k2))
   rw[←heq,yQ (by omega),←hx,List.map_append]
   exact o2
omit hc in
theorem Buf.str {B:Nat}{v:Value}{l t:List UInt8}(hb:Own H B 1 v (l.map fV))(hB:B≤H.next)(hl:l.length+t.length≤140737488355328):
 ∃v' H',bQ H 1 1 v t.length (t.map fun b=>.int .u8 (b.toNat:Nat))=some (v',H')∧Own H' B 1 v' ((l++t).map fV)∧aa.keep B H H':=by
 have hfl: ∀t:List UInt8,(t.map fV).flatten=t.map fun b=>.int .u8 (b.toNat:Nat):=fun t=>by
  induction t with
  |nil=>rfl
  |cons a t ih=>simp only[List.map_cons,List.flatten_cons,ih];rfl
 by_cases ht:t=[]
 ·subst ht
  refine⟨v,H,?_,by simpa using hb,aa.Gy _ _⟩
  exact EG (B:=B) (.inr (.inr hb)) (by omega) (by omega) (by simp at hl ⊢;omega) (by simp at hl ⊢;omega)
 ·have h:=Buf.append (bytes:=1) (new:=t.map fV) (.inr (.inr hb)) hB (by omega) (by omega) (by simp;omega) (by simp;omega) (fun r hr=>by simp only[List.mem_map]at hr;obtain⟨x,_,rfl⟩:=hr;rfl) (by
   rw[hfl,List.all_eq_true];intro x hx;simp only[List.mem_map]at hx;obtain⟨y,_,rfl⟩:=hx;rfl) (by simpa using ht)
  rw[hfl,List.length_map]at h
  rw[List.map_append]
  exact h
theorem VF {B:Nat}{v:Value}{l t:List UInt8}(hb:Buf H B 1 v (l.map fV))(hB:B≤H.next)(hl:l.length≤100000000)(ht:t.length≤100000000)
 (hK: ∀v' H',Own H' B 1 v' ((l++(encI t.length++t)).map fV)→aa.keep B H H'→K v' H'):c.C (c.F Qj) [v,ak t] H K:=by
 refine c.enter hc.Uz rfl ?_
 simp -implicitDefEqProofs [vL,ak]
 refine ai (GA c hc (by omega) (by omega) hb hB (by omega) fun v1 H1 o1 k1=> ?_)
 have hn:(l++encI t.length).length≤100000010:=by
  have:=bN (n:=t.length) (by omega) (by omega)
  simp;omega
 obtain⟨v2,H2,e2,o2,k2⟩:=Buf.str (t:=t) o1 (Nat.le_trans hB k1.next) (by omega)
 simp -implicitDefEqProofs [ByteArray.size,e2]
 exact hK _ _ (by rw[←List.append_assoc];exact o2) (k1.trans k2)
theorem qcN {B:Nat}{v:Value}{l:List UInt8}{n:Int}{p:Nat}{ro:Bool}(hp:H.get p=some (.cells [.int .i64 n] ro))(h1: -9223372036854775808≤n)(h2:n<9223372036854775808)(hb:Buf H B 1 v (l.map fV))(hB:B≤H.next)(hl:l.length≤100000000)
 (hK: ∀v' H',Own H' B 1 v' ((l++encI n).map fV)→aa.keep B H H'→K v' H'):c.C (c.F wE) [v,.pointer (some ⟨p,0,none⟩)] H K:=by
 refine c.enter hc.zx rfl ?_
 simp -implicitDefEqProofs [jJ,hp]
 refine ai (GA c hc h1 h2 hb hB (by omega) fun v1 H1 o1 k1=> ?_)
 simp -implicitDefEqProofs []
 exact hK _ _ o1 k1
theorem qaJ {B:Nat}{v:Value}{l t:List UInt8}{p:Nat}{ro:Bool}(hp:H.get p=some (.cells [ak t] ro))(ht:t.length≤100000000)(hb:Buf H B 1 v (l.map fV))(hB:B≤H.next)(hl:l.length≤100000000)
 (hK: ∀v' H',Own H' B 1 v' ((l++(encI t.length++t)).map fV)→aa.keep B H H'→K v' H'):c.C (c.F vJ) [v,.pointer (some ⟨p,0,none⟩)] H K:=by
 refine c.enter hc.xL rfl ?_
 simp -implicitDefEqProofs [jm,hp]
 refine ai (VF c hc hb hB hl ht fun v1 H1 o1 k1=> ?_)
 simp -implicitDefEqProofs []
 exact hK _ _ o1 k1
theorem EH {B:Nat}{v:Value}{l:List UInt8}{n:Int}{p:Nat}{ro:Bool}(hp:H.get p=some (.cells [.int .i64 n] ro))(hpn:p<H.next)(hb:Buf H B 1 v (l.map fV))(hB:B≤H.next)(hl:l.length≤100000000)
 (hK: ∀v' H',Own H' B 1 v' ((l++[UInt8.ofNat (n % 256).toNat]).map fV)→aa.keep B H H'→K v' H'):c.C (c.F vK) [v,.pointer (some ⟨p,0,none⟩)] H K:=by
 refine c.enter hc.xM rfl ?_
 obtain⟨x,hor,hx⟩: ∃x:UInt8,IntKind.u8.wrap n=((x.toNat:Nat):Int)∧x=UInt8.ofNat (n % 256).toNat:=⟨_,qhK n,rfl⟩
 rw[←hx]at hK
 simp -implicitDefEqProofs [jo,hp,hor,iN,aY,aa.aT]
 obtain⟨v2,H2,e2,o2,k2⟩:=(hb.le (H.ax (.cells (fV x) false))).yP (bytes:=1) (new:=fV x) (by simp only[YX];omega) (by omega) (by omega) (by simp;omega) (by simp;omega) rfl rfl
 simp only[fV,Fu]at e2
 simp -implicitDefEqProofs [e2]
 refine hK _ _ ?_ ((H.ax _).keep (by omega) |>.trans k2)
 rw[List.map_append]
 exact o2
def gI (l:List (List UInt8)):List UInt8:=(l.map fun t=>encI t.length++t).flatten
omit hc in
theorem EJ {α:Type}: ∀(l:List (List α)) (i:Nat),(l.take i).flatten.length≤l.flatten.length
 |[],_=>by simp
 |x::l,0=>by simp
 |x::l,i+1=>by have:=EJ l i;simp only[List.take_succ_cons,List.flatten_cons,List.length_append];omega
omit hc in
theorem H9 {α:Type}{x:List α}: ∀{l:List (List α)},x ∈ l→x.length≤l.flatten.length
 |[],h=>by simp at h
 |y::l,h=>by
  rcases List.mem_cons.1 h with rfl|h
  ·simp
  ·have:=H9 h
   simp only[List.flatten_cons,List.length_append];omega
theorem Xh {B:Nat}{v u:Value}{l:List UInt8}{m:List (List UInt8)}{p:Nat}{ro:Bool}(hp:H.get p=some (.cells [u] ro))(hpB:p<B)(hs:Fs H 1 u (m.map fun t=>[ak t]))(hBe:B=H.next)
 (hml:m.length≤1000000) (hmt:(gI m).length≤1000000) (hb:Buf H B 1 v (l.map fV)) (hB:B≤H.next) (hl:l.length≤1000000)
 (hK: ∀v' H',Own H' B 1 v' ((l++(encI m.length++gI m)).map fV)→aa.keep B H H'→K v' H'):c.C (c.F uw) [v,.pointer (some ⟨p,0,none⟩)] H K:=by
 refine c.enter hc.wF rfl ?_
 have hs':=hs
 obtain⟨a,cap,rfl,_⟩:=hs
 simp only[List.length_map]at hp hs' ⊢
 simp -implicitDefEqProofs [iY,hp]
 refine ai (GA c hc (by omega) (by omega) hb hB (by omega) fun v1 H1 o1 k1=> ?_)
 have hp1:=(k1.get p hpB).trans hp
 have hn:=bN (n:=m.length) (by omega) (by omega)
 simp -implicitDefEqProofs [hp1]
 refine cz c.mono (fun k T H'=> ∃(i:Nat) (v':Value),i≤m.length∧k=m.length-i∧T 0=v'∧T 12 = .int .i64 i∧T 10 = .slice a m.length cap∧T 11 = .int .i64 m.length∧Own H' B 1 v' ((l++(encI m.length++gI (m.take i))).map fV)∧aa.keep B H H') m.length ?_ ?_
 ·refine⟨0,v1,by omega,rfl,?_⟩
  simp -implicitDefEqProofs []
  exact⟨by simpa[gI]using o1,k1⟩
 ·rintro k T H' ⟨i,v',hi,rfl,t0,t12,t10,t11,hb',hk⟩
  have hll:(l++(encI m.length++gI (m.take i))).length≤2000010:=by
   have:=EJ (m.map fun t=>encI t.length++t) i
   simp only[gI,List.length_append,List.map_take]at *
   omega
  by_cases him:i<m.length
  ·have hic:(i:Int)<(m.length:Int):=by omega
   obtain⟨b,o,cap',cs,ro',e,hb1,hget,hat⟩:=hs'.at1 (i:=i) (x:=ak m[i]) (by simp[him])
   simp only[Value.slice.injEq]at e
   obtain⟨rfl,-,rfl⟩:=e
   have kD:=(hk.get b (by omega)).trans hget
   have hw:IntKind.i64.wrap ((i:Int)+1)=(i:Int)+1:=wrap64 (by omega) (by omega)
   have hmi:m[i].length≤1000000:=by
    have:=H9 (x:=encI (m[i].length:Int)++m[i]) (l:=m.map fun t=>encI t.length++t) (List.mem_map.2 ⟨m[i],by simp,rfl⟩)
    simp only[gI,List.length_append]at *
    omega
   simp -implicitDefEqProofs [t0,t12,t10,t11,hic,him,kD,hat]
   refine ai (VF c hc (.inr (.inr hb')) (Nat.le_trans hB hk.next) (by omega) (by omega) fun v2 H2 o2 k2=> ?_)
   simp -implicitDefEqProofs [t0,t12,t10,t11,hw]
   refine⟨m.length-(i+1),by omega,i+1,by omega,rfl,by simp,?_,hk.trans k2⟩
   have:gI (m.take (i+1))=gI (m.take i)++(encI m[i].length++m[i]):=by
    simp only[gI,List.take_add_one,List.getElem?_eq_getElem him,List.map_append,List.flatten_append,Option.toList_some,List.map_cons,List.map_nil,List.flatten_cons,List.flatten_nil,List.append_nil]
   rw[this]
   simpa using o2
  ·have hie:i=m.length:=by omega
   subst hie
   simp -implicitDefEqProofs [t0,t12,t10,t11]
   rw[List.take_length]at hb'
   exact hK _ _ hb' hk
end
structure Wr where
 most:Int
 b:List UInt8
 e:Int
def Wr.lay (w:Wr)(x:List UInt8):Wr:=if w.e≠0 then w else if w.most<(w.b++x).length then {w with e:=2}else {w with b:=w.b++x}
def Wr.ok (w:Wr):Prop:=0≤w.most∧w.most≤65536∧(w.b.length:Int)≤w.most
theorem Wr.ok.lay {w:Wr}(h:w.ok)(x:List UInt8):(w.lay x).ok:=by
 unfold Wr.lay
 split
 ·exact h
 ·split
  ·exact h
  ·exact⟨h.1,h.2.1,by simp only;omega⟩
def Ia (H:aa)(p:Nat)(w:Wr):Prop:=
 p<H.next∧w.ok∧∃v,H.get p=some (.cells [.int .i64 w.most,v,.int .i64 w.e] false)∧((w.b=[]∧v = .slice none 0 0)∨Own H 0 1 v (w.b.map fV))
theorem Own.off {H:aa}{B p:Nat}{v:Value}{x:Int}{cs:List Value}{l:List UInt8}{ro:Bool}(h:Own H B 1 v (l.map fV))(hp:H.get p=some (.cells (.int .i64 x::cs) ro))(o:dU):Own (H.set p o) B 1 v (l.map fV):=by
 obtain⟨h0,blk,h1,h2,h3,h4⟩:=h
 refine⟨h0,blk,h1,h2,h3,?_⟩
 rw[YW,if_neg]
 ·exact h4
 ·rintro rfl
  rw[hp]at h4
  simp only[Option.some.injEq,dU.cells.injEq]at h4
  cases l with
  |nil=>simp at h4
  |cons a l=>simp[fV,Fu]at h4
theorem Ia.le {H H':aa}{p:Nat}{w:Wr}(h:Ia H p w)(hl:H.le H'):Ia H' p w:=by
 obtain⟨h1,h2,v,h3,h4⟩:=h
 exact⟨Nat.lt_of_lt_of_le h1 hl.next,h2,v,(hl.get p h1).trans h3,h4.imp id fun h=>h.le hl⟩
theorem Ia.cut {H:aa}{v:Value}{l:List UInt8}(h:(l=[]∧v = .slice none 0 0)∨Own H 0 1 v (l.map fV))(hl:l.length<dQ):
 ∃a cap v',v = .slice a l.length cap∧bK H 1 a l.length cap 0 l.length (some l.length)=some v'∧Buf H H.next 1 v' (l.map fV):=by
 rcases h with⟨rfl,rfl⟩|⟨h0,blk,h1,h2,rfl,h4⟩
 ·exact⟨none,0,.slice none 0 0,rfl,by simp[bK,dQ],.inl ⟨rfl,rfl⟩⟩
 ·refine⟨_,_,.slice (some ⟨blk,0,none⟩) l.length l.length,by rw[List.length_map],?_,.inr (.inl ⟨h0,blk,0,_,false,h2,by simpa using hl,by rw[List.length_map],h4,?_,?_⟩)⟩
  ·have hU: ¬ (dQ+1<dQ):=by omega
   simp[bK,hU,hl]
  ·have:=gW (l.map fV) 1 h0
   rw[List.drop_zero,List.take_of_length_le (by omega)]
  ·have:=gW (l.map fV) 1 h0
   omega
section
variable (c:Ctx) (hc:eU c) {H:aa} {K:Value→aa→Prop}
include hc
theorem Cr {p:Nat}{w:Wr}{g:FuncId}{cap:Value}{x:List UInt8}(hw:Ia H p w)(hx:x.length≤1000000000)
 (hf: ∀(v:Value) (K':Value→aa→Prop),Buf H H.next 1 v (w.b.map fV)→(∀v' H2,Own H2 H.next 1 v' ((w.b++x).map fV)→aa.keep H.next H H2→K' v' H2)→c.C g [v,cap] H K')
 (hK: ∀H',aa.upd [p] H H'→Ia H' p (w.lay x)→K (.tuple #[]) H'):c.C (c.F Cc) [.pointer (some ⟨p,0,none⟩),.func (.func g) #[] #[cap]] H K:=by
 refine c.enter hc.F6 rfl ?_
 have hw':=hw
 obtain⟨h1,⟨m1,m2,m3⟩,v,h3,h4⟩:=hw
 by_cases he:w.e=0
 ·obtain⟨a,cp,v',rfl,hsl,hb⟩:=Ia.cut h4 (by unfold dQ;omega)
  simp -implicitDefEqProofs [jl,h3,he,aU,bH,gK,hsl]
  refine qR c.mono (hf v' _ hb fun v2 H2 o2 k2=> ?_)
  have h3':=(k2.get p h1).trans h3
  have hk2:=k2.next
  obtain⟨a2,c2,rfl⟩:=o2.len
  simp only[List.length_map]at o2 ⊢
  have qhL:w.lay x=if w.most<(w.b++x).length then {w with e:=2}else {w with b:=w.b++x}:=by
   unfold Wr.lay;rw[if_neg (by simpa using he)]
  by_cases hlen:w.most<(w.b.length:Int)+x.length
  ·simp -implicitDefEqProofs [h3',hlen]
   refine hK _ ((k2.upd (Nat.le_refl _)).set (.inr (by simp)) _) ?_
   rw[qhL,if_pos (by simpa using hlen)]
   refine⟨Nat.lt_of_lt_of_le h1 hk2,⟨m1,m2,m3⟩,_,by rw[YW,if_pos rfl],?_⟩
   exact h4.imp id fun h=>(h.le (k2.le (Nat.le_refl _))).off h3' _
  ·simp -implicitDefEqProofs [h3',hlen]
   refine hK _ ((k2.upd (Nat.le_refl _)).set (.inr (by simp)) _) ?_
   rw[qhL,if_neg (by simpa using hlen)]
   refine⟨Nat.lt_of_lt_of_le h1 hk2,⟨m1,m2,by simp only[List.length_append];omega⟩,_,by rw[YW,if_pos rfl,he],.inr ?_⟩
   have:=(o2.weak (Nat.zero_le _)).off h3' (.cells [.int .i64 w.most,.slice a2 (w.b++x).length c2,.int .i64 0] false)
   simpa[he]using this
 ·simp -implicitDefEqProofs [jl,h3,he,aU]
  refine hK _ (aa.jA _ _) ?_
  unfold Wr.lay
  rw[if_pos he];exact hw'
theorem qB {p:Nat}{w:Wr}{n:Int}(hw:Ia H p w)(h1: -9223372036854775808≤n)(h2:n<9223372036854775808)
 (hK: ∀H',aa.upd [p] H H'→Ia H' p (w.lay (encI n))→K (.tuple #[]) H'):c.C (c.F Cb) [.pointer (some ⟨p,0,none⟩),.int .i64 n] H K:=by
 refine c.enter hc.F5 rfl ?_
 have hl:=bN h1 h2
 have hb:=hw.2.1
 simp -implicitDefEqProofs [lQ]
 refine ai (Cr c hc (x:=encI n) (hw.le (H.ax _)) (by omega) (fun v K' hv hK'=>qcN c hc (p:=H.next) (ro:=false) (by simp -implicitDefEqProofs []) h1 h2 hv (Nat.le_refl _) (by have:=hb.2.2;have:=hb.2.1;omega) hK') fun H' u' w'=> ?_)
 simp -implicitDefEqProofs []
 exact hK _ ((H.ax _).uA u') w'
theorem uC {p:Nat}{w:Wr}{t:List UInt8}(hw:Ia H p w)(ht:t.length≤100000000)
 (hK: ∀H',aa.upd [p] H H'→Ia H' p (w.lay (encI t.length++t))→K (.tuple #[]) H'):c.C (c.F zi) [.pointer (some ⟨p,0,none⟩),ak t] H K:=by
 refine c.enter hc.Ei rfl ?_
 have hl:=bN (n:=t.length) (by omega) (by omega)
 have hb:=hw.2.1
 simp -implicitDefEqProofs [kK,ak]
 refine ai (Cr c hc (x:=encI t.length++t) (hw.le (H.ax _)) (by simp;omega) (fun v K' hv hK'=>qaJ c hc (p:=H.next) (ro:=false) (by simp -implicitDefEqProofs [ak]) ht hv (Nat.le_refl _) (by have:=hb.2.2;have:=hb.2.1;omega) hK') fun H' u' w'=> ?_)
 simp -implicitDefEqProofs []
 exact hK _ ((H.ax _).uA u') w'
theorem Xi {p:Nat}{w:Wr}{m:List (List UInt8)}{u:Value}(hw:Ia H p w)(hs:Fs H 1 u (m.map fun t=>[ak t]))(hml:m.length≤1000000)(hmt:(gI m).length≤1000000)
 (hK: ∀H',aa.upd [p] H H'→Ia H' p (w.lay (encI m.length++gI m))→K (.tuple #[]) H'):c.C (c.F xK) [.pointer (some ⟨p,0,none⟩),u] H K:=by
 refine c.enter hc.Ce rfl ?_
 have hl:=bN (n:=m.length) (by omega) (by omega)
 have hb:=hw.2.1
 have hs':=hs
 obtain⟨a,cap,rfl,_⟩:=hs
 simp -implicitDefEqProofs [jX]
 refine ai (Cr c hc (x:=encI m.length++gI m) (hw.le (H.ax _)) (by simp;omega) (fun v K' hv hK'=>Xh c hc (p:=H.next) (u:=.slice a m.length cap) (ro:=false) (by simp -implicitDefEqProofs []) (by simp[YX]) (by simpa using hs'.le (H.ax _)) rfl hml hmt hv (Nat.le_refl _) (by have:=hb.2.2;have:=hb.2.1;omega) hK') fun H' u' w'=> ?_)
 simp -implicitDefEqProofs []
 exact hK _ ((H.ax _).uA u') w'
omit hc in
def Wr.byte (w:Wr)(n:Int):Wr:=(if w.e=0∧(n<0∨255<n)then {w with e:=1}else w).lay [UInt8.ofNat (n % 256).toNat]
theorem Mo {p:Nat}{w:Wr}{n:Int}(hw:Ia H p w)
 (hK: ∀H',aa.upd [p] H H'→Ia H' p (w.byte n)→K (.tuple #[]) H'):c.C (c.F zw) [.pointer (some ⟨p,0,none⟩),.int .i64 n] H K:=by
 refine c.enter hc.Ep rfl ?_
 have hw':=hw
 obtain⟨h1,⟨m1,m2,m3⟩,v,h3,h4⟩:=hw
 have hpn:p≠H.next:=by omega
 unfold Wr.byte at hK
 by_cases he:w.e=0∧(n<0∨255<n)
 ·have hbad:(decide (n<0)||decide (255<n))=true:=by simpa using he.2
  have key:Ia ((H.alloc (.cells [.int .i64 n] false)).set p (.cells [.int .i64 w.most,v,.int .i64 1] false)) p {w with e:=1}:=
   ⟨by simp only[YY,YX];omega,⟨m1,m2,m3⟩,v,by rw[YW,if_pos rfl],h4.imp id fun h=>(h.le (H.ax _)).off (p:=p) (x:=w.most) (by rw[YV,if_neg hpn];exact h3) _⟩
  rw[if_pos he]at hK
  have he0:=he.1
  by_cases hn:n<0
  ·simp -implicitDefEqProofs [eZ,h3,he0,aU,hn,hpn]
   refine ai (Cr c hc (x:=[UInt8.ofNat (n % 256).toNat]) key (by simp) (fun v K' hv hK'=>EH c hc (n:=n) (ro:=false) (p:=H.next) (by rw[YW,if_neg (Ne.symm hpn),YV,if_pos rfl]) (by simp[YY,YX]) hv (Nat.le_refl _) (by simp only;omega) hK') fun H' u' w'=> ?_)
   simp -implicitDefEqProofs []
   exact hK _ (((H.ax _).upd [p] |>.set (.inr (by simp)) _).trans u') w'
  ·have hn2:255<n:=he.2.resolve_left hn
   simp -implicitDefEqProofs [eZ,h3,he0,aU,hn,hn2,hpn]
   refine ai (Cr c hc (x:=[UInt8.ofNat (n % 256).toNat]) key (by simp) (fun v K' hv hK'=>EH c hc (n:=n) (ro:=false) (p:=H.next) (by rw[YW,if_neg (Ne.symm hpn),YV,if_pos rfl]) (by simp[YY,YX]) hv (Nat.le_refl _) (by simp only;omega) hK') fun H' u' w'=> ?_)
   simp -implicitDefEqProofs []
   exact hK _ (((H.ax _).upd [p] |>.set (.inr (by simp)) _).trans u') w'
 ·rw[if_neg he]at hK
  by_cases he0:w.e=0
  ·have hn: ¬ n<0:=fun h=>he ⟨he0,.inl h⟩
   have hn2: ¬ 255<n:=fun h=>he ⟨he0,.inr h⟩
   simp -implicitDefEqProofs [eZ,h3,he0,aU,hn,hn2,hpn]
   refine ai (Cr c hc (x:=[UInt8.ofNat (n % 256).toNat]) (hw'.le (H.ax _)) (by simp) (fun v K' hv hK'=>EH c hc (n:=n) (ro:=false) (p:=H.next) (by rw[YV,if_pos rfl]) (by simp[YX]) hv (Nat.le_refl _) (by omega) hK') fun H' u' w'=> ?_)
   simp -implicitDefEqProofs []
   exact hK _ ((H.ax _).uA u') w'
  ·simp -implicitDefEqProofs [eZ,h3,he0,aU,hpn]
   refine ai (Cr c hc (x:=[UInt8.ofNat (n % 256).toNat]) (hw'.le (H.ax _)) (by simp) (fun v K' hv hK'=>EH c hc (n:=n) (ro:=false) (p:=H.next) (by rw[YV,if_pos rfl]) (by simp[YX]) hv (Nat.le_refl _) (by omega) hK') fun H' u' w'=> ?_)
   simp -implicitDefEqProofs []
   exact hK _ ((H.ax _).uA u') w'
theorem ni {n:Int}(hK: ∀p H',H.next≤p→H.le H'→Ia H' p ⟨if 65536<(if 0>n then 0 else n)then 65536 else (if 0>n then 0 else n),[],0⟩→K (.pointer (some ⟨p,0,none⟩)) H'):c.C (c.F Ef) [.int .i64 n] H K:=by
 refine c.enter hc.Io rfl ?_
 simp -implicitDefEqProofs [mQ]
 refine hK _ _ (Nat.le_refl _) (H.ax _) ⟨by simp[YX],⟨?_,?_,?_⟩,.slice none 0 0,?_,.inl ⟨rfl,rfl⟩⟩
 ·simp only;split <;> (try split) <;> omega
 ·simp only;split <;> (try split) <;> omega
 ·simp only[List.length_nil];split <;> (try split) <;> omega
 ·simp -implicitDefEqProofs []
def Wr.done (w:Wr):Value:=.tuple #[ak (if w.e=0 then w.b else []),.int .i64 w.e]
omit hc in
theorem Cs: ∀l:List UInt8,gQ ((l.map fV).flatten)=some l
 |[]=>rfl
 |x::l=>by
  have ih:=Cs l
  simp only[List.map_cons,List.flatten_cons,fV,Fu,List.cons_append,List.nil_append,gQ]at *
  rw[ih]
  simp
theorem xQ {p:Nat}{w:Wr}(hw:Ia H p w)(hK:K w.done H):c.C (c.F zk) [.pointer (some ⟨p,0,none⟩)] H K:=by
 refine c.enter hc.Ej rfl ?_
 obtain⟨h1,⟨m1,m2,m3⟩,v,h3,h4⟩:=hw
 unfold Wr.done at hK
 by_cases he:w.e=0
 ·rw[if_pos he]at hK
  rcases h4 with⟨e1,rfl⟩|⟨h0,blk,k1,k2,rfl,k4⟩
  ·simp -implicitDefEqProofs [gF,h3,he,aU]
   rw[e1,he]at hK;exact hK
  ·have hfl:=gW (w.b.map fV) 1 h0
   have hbl:gQ (List.take w.b.length (w.b.map fV).flatten)=some w.b:=by
    rw[List.take_of_length_le (by simpa using Nat.le_of_eq hfl)];exact Cs w.b
   simp -implicitDefEqProofs [gF,h3,he,aU,k4,hbl,hfl]
   rw[he]at hK;exact hK
 ·rw[if_neg he]at hK
  simp -implicitDefEqProofs [gF,h3,he,aU]
  exact hK
end
end
section
abbrev Rd:=Option (List UInt8)
def rdC:Rd→List Value
 |some s=>[ak s,.bool false]
 |none=>[ak [],.bool true]
def NH:Rd→List UInt8
 |some s=>s
 |none=>[]
def IQ (H:aa)(p:Nat)(r:Rd):Prop:=p<H.next∧(NH r).length≤1000000∧H.get p=some (.cells (rdC r) false)
def bD:Rd→Rd×Int
 |none=>(none,0)
 |some s=>match dec 0 0 s with
  |some (u,n)=>(some (s.drop n),Xg u)
  |none=>(none,0)
def takeN (n:Int):Rd→Rd×List UInt8×Bool
 |none=>(none,[],false)
 |some s=>if n<0∨(s.length:Int)<n then (none,[],false)else (some (s.drop n.toNat),s.take n.toNat,true)
def uD:Rd→Rd×Int
 |some (b::s)=>(some s,b.toNat)
 |_=>(none,0)
def cB (r:Rd):Rd×List UInt8:=((takeN (bD r).2 (bD r).1).1,(takeN (bD r).2 (bD r).1).2.1)
section
variable (c:Ctx) (hc:eU c) {H:aa} {K:Value→aa→Prop}
include hc
theorem vP {s:List UInt8}(hs:s.length≤1000000)(hK: ∀p H',H.next≤p→H.le H'→IQ H' p (some s)→K (.pointer (some ⟨p,0,none⟩)) H'):c.C (c.F Ee) [ak s] H K:=by
 refine c.enter hc.Im rfl ?_
 simp -implicitDefEqProofs [mP,ak]
 refine hK _ _ (Nat.le_refl _) (H.ax _) ⟨by simp[YX],hs,?_⟩
 simp -implicitDefEqProofs [rdC,ak]
theorem EK {p:Nat}{r:Rd}(hr:IQ H p r)(hK: ∀H',aa.upd [p] H H'→IQ H' p none→K (.tuple #[]) H'):c.C (c.F zu) [.pointer (some ⟨p,0,none⟩)] H K:=by
 refine c.enter hc.Eo rfl ?_
 obtain⟨h1,h2,h3⟩:=hr
 have fin: ∀s b,H.get p=some (.cells [.string s,.bool b] false)→wz c.P c.C (gH c.F c.Ty).body (ZK (gH c.F c.Ty).results K) (Dr [.pointer (some ⟨p,0,none⟩)]) H:=by
  intro s b h
  simp -implicitDefEqProofs [gH,aU,h]
  refine hK _ (((aa.jA _ _).set (.inr (by simp)) _).set (.inr (by simp)) _) ⟨h1,by simp[NH],?_⟩
  simp -implicitDefEqProofs [rdC,ak]
 cases r with
 |none=>exact fin _ _ h3
 |some s=>exact fin _ _ h3
theorem Qr {p:Nat}{r:Rd}{n:Int}(hr:IQ H p r)(hK: ∀H',aa.upd [p] H H'→IQ H' p (takeN n r).1→K (.tuple #[ak (takeN n r).2.1,.bool (takeN n r).2.2]) H'):
 c.C (c.F zq) [.pointer (some ⟨p,0,none⟩),.int .i64 n] H K:=by
 refine c.enter hc.En rfl ?_
 have hr':=hr
 obtain⟨h1,h2,h3⟩:=hr
 cases r with
 |none=>
  simp only[rdC,ak]at h3
  simp -implicitDefEqProofs [eY,aU,h3]
  refine ai (EK c hc hr' fun H' u' r'=> ?_)
  simp -implicitDefEqProofs []
  exact hK _ u' r'
 |some s=>
  simp only[rdC,ak]at h3
  by_cases hn:n<0
  ·have e:takeN n (some s)=(none,[],false):=by simp[takeN,hn]
   rw[e]at hK
   simp -implicitDefEqProofs [eY,aU,h3,hn]
   refine ai (EK c hc hr' fun H' u' r'=> ?_)
   simp -implicitDefEqProofs []
   exact hK _ u' r'
  ·by_cases hn2:(s.length:Int)<n
   ·have e:takeN n (some s)=(none,[],false):=by simp[takeN,hn2]
    rw[e]at hK
    simp -implicitDefEqProofs [eY,aU,h3,hn,hn2]
    refine ai (EK c hc hr' fun H' u' r'=> ?_)
    simp -implicitDefEqProofs []
    exact hK _ u' r'
   ·have e:takeN n (some s)=(some (s.drop n.toNat),s.take n.toNat,true):=by show(if n<0∨(s.length:Int)<n then _ else _)=_;rw[if_neg (by omega)]
    rw[e]at hK
    have hn0:0≤n:=by omega
    have hn3:n.toNat≤s.length:=by omega
    have hdt:List.take (s.length-n.toNat) (List.drop n.toNat s)=List.drop n.toNat s:=List.take_of_length_le (by simp)
    simp -implicitDefEqProofs [eY,aU,h3,hn,hn2,bH,gK,hn0,hn3,ak,hdt]
    refine hK _ ((aa.jA _ _).set (.inr (by simp)) _) ⟨h1,by simp[NH]at h2 ⊢;omega,?_⟩
    simp -implicitDefEqProofs [rdC,ak]
omit hc in
theorem qld (x i:Nat)(hi:i≤9):Wq .u64 (x:Int) (7*(i:Int))=((x*128 ^ i % 18446744073709551616:Nat):Int):=by
 have e1:min (7*(i:Int)).toNat IntKind.u64.bits=7*i:=by
  show min (7*(i:Int)).toNat 64=7*i
  omega
 have e2:(2:Int) ^ (7*i)=((128 ^ i:Nat):Int):=by
  rw[Int.pow_mul];simp
 unfold Wq
 rw[e1,e2,uB]
 omega
omit hc in
theorem qaK {u x i:Nat}(hu:u<128 ^ i)(hx:x*128 ^ i<18446744073709551616):u ||| (x*128 ^ i % 18446744073709551616)=u+x*128 ^ i:=by
 rw[Nat.mod_eq_of_lt hx,Nat.or_comm]
 have e:128 ^ i=2 ^ (7*i):=by rw[Nat.pow_mul]
 rw[e]at hu ⊢
 rw[Nat.mul_comm,←Nat.two_pow_add_eq_or_of_lt hu];omega
omit hc in
theorem Xj {i:Nat}(hi:i≤9):128 ^ i≤9223372036854775808:=by
 have hp:128 ^ i≤128 ^ 9:=Nat.pow_le_pow_right (by omega) hi
 have e:(128:Nat) ^ 9=9223372036854775808:=by decide
 omega
omit hc in
theorem Mq {i:Nat}(hi:i≤8):128 ^ i≤72057594037927936:=by
 have hp:128 ^ i≤128 ^ 8:=Nat.pow_le_pow_right (by omega) hi
 have e:(128:Nat) ^ 8=72057594037927936:=by decide
 omega
theorem OB {s:List UInt8}(hK:K (.tuple #[.int .u64 (((dec 0 0 s).getD (0,0)).1:Nat),.int .i64 (((dec 0 0 s).getD (0,0)).2:Nat)]) H):c.C (c.F LH) [ak s] H K:=by
 refine c.enter hc.Qk rfl ?_
 obtain⟨mm,hmm⟩: ∃mm:Nat,mm=min s.length 10:=⟨_,rfl⟩
 have hm9:(if (10:Int)<(s.length:Int)then (10:Int)else (s.length:Int))=(mm:Int):=by split <;> omega
 simp -implicitDefEqProofs [ru,ak,hm9]
 refine cz c.mono (fun k T H'=> ∃(i u:Nat),H'=H∧i≤10∧i≤s.length∧k=10-i∧T 0=ak s∧T 4 = .int .u64 u∧T 9 = .int .i64 mm∧T 10 = .int .i64 i∧(i=10∧dec 0 0 s=none∨i<10∧u<128 ^ i∧dec 0 0 s=dec i u (s.drop i))) 10 ?_ ?_
 ·refine⟨0,0,rfl,by omega,by omega,rfl,?_⟩
  simp -implicitDefEqProofs [ak]
 ·rintro k T H' ⟨i,u,rfl,hi,his,rfl,t0,t4,t9,t10,hd⟩
  by_cases him:i<mm
  ·have Sq:(i:Int)<(mm:Int):=by omega
   obtain⟨qlF,hu,hd⟩:=hd.resolve_left (by omega)
   have hsi:s[i]? =some s[i]:=by simp
   obtain⟨b,hbs⟩: ∃b,b=s[i]:=⟨_,rfl⟩
   rw[←hbs]at hsi
   have hdrop:s.drop i=b::s.drop (i+1):=by rw[hbs];exact List.drop_eq_getElem_cons _
   have hb:=b.toNat_lt
   have w1:IntKind.u64.wrap ((b.toNat:Nat):Int)=((b.toNat:Nat):Int):=Sm (by omega) (by omega)
   have w2:ZQ .u64 ((b.toNat:Nat):Int) 127=((b.toNat % 128:Nat):Int):=by rw[←qet];exact qhG (a:=b.toNat) (b:=127) (by omega) (by decide)
   have w3:IntKind.i64.wrap (7*(i:Int))=7*(i:Int):=wrap64 (by omega) (by omega)
   have w4:=qld (b.toNat % 128) i (by omega)
   have hp:=Xj (i:=i) (by omega)
   have w5:orW .u64 (u:Int) ((b.toNat % 128*128 ^ i % 18446744073709551616:Nat):Int)=((u ||| (b.toNat % 128*128 ^ i % 18446744073709551616):Nat):Int):=orU (by omega) (Nat.mod_lt _ (by omega))
   obtain⟨V,hV⟩: ∃V,V=u ||| (b.toNat % 128*128 ^ i % 18446744073709551616):=⟨_,rfl⟩
   rw[←hV]at w5
   obtain⟨X,hX⟩: ∃X,X=b.toNat % 128*128 ^ i % 18446744073709551616:=⟨_,rfl⟩
   rw[←hX]at w4 w5
   obtain⟨y,hy⟩: ∃y,y=b.toNat:=⟨_,rfl⟩
   obtain⟨z,hz⟩: ∃z,z=y % 128:=⟨_,rfl⟩
   rw[←hy]at w1 w2 w4
   rw[←hz]at w2 w4
   have h7: ¬ (7*(i:Int)<0):=by omega
   have w6:IntKind.i64.wrap ((i:Int)+1)=(i:Int)+1:=wrap64 (by omega) (by omega)
   by_cases h128:128≤y
   ·have h128':(128:Int)≤(y:Int):=by omega
    simp -implicitDefEqProofs [t0,t4,t9,t10,Sq,him,ak,hsi,←hy,w1,w2,w3,w4,w5,w6,h7,h128',h128]
    refine⟨10-(i+1),by omega,i+1,by omega,by omega,rfl,V,rfl,by simp,?_⟩
    rw[hdrop,dec,if_pos (by omega)]at hd
    by_cases h9:9≤i
    ·rw[if_pos h9]at hd
     exact .inl ⟨by omega,hd⟩
    ·rw[if_neg h9]at hd
     have hp8:=Mq (i:=i) (by omega)
     have hx:b.toNat % 128*128 ^ i≤127*128 ^ i:=Nat.mul_le_mul_right _ (by omega)
     have hVe:V=u+b.toNat % 128*128 ^ i:=by rw[hV];exact qaK hu (by omega)
     have e1:128 ^ (i+1)=128*128 ^ i:=by rw[Nat.pow_succ,Nat.mul_comm]
     have e2:b.toNat-128=b.toNat % 128:=by omega
     rw[e2,←hVe]at hd
     exact .inr ⟨by omega,by omega,hd⟩
   ·have h128': ¬ (128:Int)≤(y:Int):=by omega
    rw[hdrop,dec,if_neg (by omega)]at hd
    have hzy:z=y:=by omega
    by_cases hbad:(0<i∧b.toNat=0)∨(i=9∧1<b.toNat)
    ·rw[if_pos hbad]at hd
     rw[hd]at hK
     by_cases hi0:0<i
     ·have UC:(0:Int)<(i:Int):=by omega
      by_cases hy0:y=0
      ·have q1:(y=0)=True:=eq_true hy0
       have q2:((y:Int)=0)=True:=eq_true (by omega)
       simp -implicitDefEqProofs [t0,t4,t9,t10,Sq,him,ak,hsi,←hy,w1,w2,w3,w4,w5,w6,h7,h128',h128,UC,hi0,q1,q2]
       exact hK
      ·have hi9:i=9:=by omega
       have hy0': ¬ (y:Int)=0:=by omega
       have hy1:(1:Int)<(y:Int):=by omega
       have qeu:1<y:=by omega
       have q1:(i=9)=True:=eq_true hi9
       have q2:((i:Int)=9)=True:=eq_true (by omega)
       simp -implicitDefEqProofs [t0,t4,t9,t10,Sq,him,ak,hsi,←hy,w1,w2,w3,w4,w5,w6,h7,h128',h128,UC,hi0,hy0',hy0,hy1,qeu,q1,q2]
       exact hK
     ·omega
    ·rw[if_neg hbad]at hd
     rw[hd]at hK
     have hVe:V=u+b.toNat*128 ^ i:=by
      have hbm:b.toNat % 128=b.toNat:=by omega
      rw[hbm]at hV
      rw[hV]
      refine qaK hu ?_
      by_cases h9:i=9
      ·subst h9
       have hx:b.toNat*128 ^ 9≤1*128 ^ 9:=Nat.mul_le_mul_right _ (by omega)
       have e:(128:Nat) ^ 9=9223372036854775808:=by decide
       omega
      ·have hx:b.toNat*128 ^ i≤127*128 ^ i:=Nat.mul_le_mul_right _ (by omega)
       have hp8:=Mq (i:=i) (by omega)
       omega
     rw[←hVe]at hK
     have fin:K (.tuple #[.int .u64 (V:Int),.int .i64 ((i:Int)+1)]) H':=by simpa using hK
     by_cases hi0:0<i
     ·have UC:(0:Int)<(i:Int):=by omega
      have hy0: ¬ y=0:=by omega
      have hy0': ¬ (y:Int)=0:=by omega
      by_cases h9:i=9
      ·have hy1: ¬ (1:Int)<(y:Int):=by omega
       have qeu: ¬ 1<y:=by omega
       have q1:(i=9)=True:=eq_true h9
       have q2:((i:Int)=9)=True:=eq_true (by omega)
       simp -implicitDefEqProofs [t0,t4,t9,t10,Sq,him,ak,hsi,←hy,w1,w2,w3,w4,w5,w6,h7,h128',h128,UC,hi0,hy0',hy0,hy1,qeu,q1,q2]
       exact fin
      ·have h9': ¬ (i:Int)=9:=by omega
       simp -implicitDefEqProofs [t0,t4,t9,t10,Sq,him,ak,hsi,←hy,w1,w2,w3,w4,w5,w6,h7,h128',h128,UC,hi0,hy0',hy0,h9,h9']
       exact fin
     ·have UC: ¬ (0:Int)<(i:Int):=by omega
      have h9: ¬ i=9:=by omega
      have h9': ¬ (i:Int)=9:=by omega
      simp -implicitDefEqProofs [t0,t4,t9,t10,Sq,him,ak,hsi,←hy,w1,w2,w3,w4,w5,w6,h7,h128',h128,hi0,UC,h9,h9']
      exact fin
  ·have Sq: ¬ (i:Int)<(mm:Int):=by omega
   have hnone:dec 0 0 s=none:=by
    rcases hd with⟨_,h⟩|⟨h1,_,h⟩
    ·exact h
    ·rw[h,List.drop_eq_nil_of_le (by omega)];rfl
   rw[hnone]at hK
   simp -implicitDefEqProofs [t0,t4,t9,t10,Sq,him]
   exact hK
omit hc in
theorem qle {a:Nat}(h:a<9223372036854775808):Wp .i64 (a:Int) 0=(a:Int)∧Wp .i64 (a:Int) (-1) = -(a:Int)-1:=by
 constructor
 ·show IntKind.i64.wrap (((BitVec.ofInt 64 (a:Int) ^^^ BitVec.ofInt 64 0).toNat:Nat):Int)=_
  have e:(BitVec.ofInt 64 (a:Int) ^^^ BitVec.ofInt 64 0).toNat=a:=by
   rw[BitVec.toNat_xor,BitVec.ofInt_natCast,BitVec.toNat_ofNat,Nat.mod_eq_of_lt (by omega)]
   simp
  rw[e];exact wrap64 (by omega) (by omega)
 ·show IntKind.i64.wrap (((BitVec.ofInt 64 (a:Int) ^^^ BitVec.ofInt 64 (-1)).toNat:Nat):Int)=_
  have e:(BitVec.ofInt 64 (a:Int) ^^^ BitVec.ofInt 64 (-1)).toNat=18446744073709551615-a:=by
   have:BitVec.ofInt 64 (-1)=BitVec.ofNat 64 18446744073709551615:=by decide
   rw[this,BitVec.ofInt_natCast]
   exact Sn a (by omega)
  rw[e]
  have e1:(2 ^ IntKind.i64.bits:Int)=18446744073709551616:=by decide
  have e2:(2 ^ (IntKind.i64.bits-1):Int)=9223372036854775808:=by decide
  unfold IntKind.wrap
  simp only[e1,e2,IntKind.signed,Bool.true_and]
  rw[if_pos (by simp;omega)]
  omega
omit hc in
theorem qhM {u:Nat}(h:u<18446744073709551616):Wp .i64 (IntKind.i64.wrap (Px .u64 (u:Int) 1)) (IntKind.i64.wrap (0-IntKind.i64.wrap (ZQ .u64 (u:Int) 1)))=Xg u:=by
 have e1:ZQ .u64 (u:Int) 1=((u % 2:Nat):Int):=by rw[←and1];exact qhG (a:=u) (b:=1) h (by decide)
 rw[qhJ,e1,wrap64 (n:=((u/2:Nat):Int)) (by omega) (by omega),wrap64 (n:=((u % 2:Nat):Int)) (by omega) (by omega),wrap64 (by omega) (by omega)]
 obtain⟨x0,x1⟩:=qle (a:=u/2) (by omega)
 unfold Xg
 by_cases hu:u % 2=0
 ·rw[if_pos hu,hu];exact x0
 ·have hu1:u % 2=1:=by omega
  rw[if_neg hu,hu1];exact x1
omit hc in
theorem IQ.keep {H H':aa}{B p:Nat}{r:Rd}(h:IQ H p r)(hk:aa.keep B H H')(hp:p<B):IQ H' p r:=⟨Nat.lt_of_lt_of_le h.1 hk.next,h.2.1,(hk.get p hp).trans h.2.2⟩
omit hc in
theorem IQ.le {H H':aa}{p:Nat}{r:Rd}(h:IQ H p r)(hk:H.le H'):IQ H' p r:=⟨Nat.lt_of_lt_of_le h.1 hk.next,h.2.1,(hk.get p h.1).trans h.2.2⟩
theorem qC {p:Nat}{r:Rd}(hr:IQ H p r)(hK: ∀H',aa.upd [p] H H'→IQ H' p (bD r).1→K (.int .i64 (bD r).2) H'):
 c.C (c.F Ca) [.pointer (some ⟨p,0,none⟩)] H K:=by
 refine c.enter hc.F4 rfl ?_
 have hr':=hr
 obtain⟨h1,h2,h3⟩:=hr
 cases r with
 |none=>
  simp only[rdC]at h3
  simp -implicitDefEqProofs [jk,aU,h3]
  refine ai (OB c hc ?_)
  simp -implicitDefEqProofs [dec]
  refine ai (EK c hc hr' fun H' u' r'=> ?_)
  simp -implicitDefEqProofs []
  exact hK _ u' r'
 |some s=>
  simp only[rdC]at h3
  simp -implicitDefEqProofs [jk,aU,h3]
  refine ai (OB c hc ?_)
  cases hd:dec 0 0 s with
  |none=>
   have e:bD (some s)=(none,0):=by simp[bD,hd]
   rw[e]at hK
   simp -implicitDefEqProofs []
   refine ai (EK c hc hr' fun H' u' r'=> ?_)
   simp -implicitDefEqProofs []
   exact hK _ u' r'
  |some x=>
   obtain⟨u,n⟩:=x
   have e:bD (some s)=(some (s.drop n),Xg u):=by simp[bD,hd]
   obtain⟨b1,b2,b3,b4⟩:=OA s 0 0 u n (by omega) (by omega) hd
   have hn0: ¬ (n:Int)=0:=by omega
   have qlf: ¬ n=0:=by omega
   have et:takeN (n:Int) (some s)=(some (s.drop n),s.take n,true):=by
    show(if (n:Int)<0∨(s.length:Int)<(n:Int)then _ else _)=_
    rw[if_neg (by omega)];rfl
   rw[e]at hK
   simp -implicitDefEqProofs [hn0,qlf]
   refine ai (Qr c hc hr' fun H' u' r'=> ?_)
   rw[et]at r' ⊢
   have hz:=qhM b1
   simp only[Int.zero_sub]at hz
   simp -implicitDefEqProofs [hz]
   exact hK _ u' r'
theorem Sr {p:Nat}{r:Rd}(hr:IQ H p r)(hK: ∀H',aa.upd [p] H H'→IQ H' p (uD r).1→K (.int .i64 (uD r).2) H'):
 c.C (c.F zo) [.pointer (some ⟨p,0,none⟩)] H K:=by
 refine c.enter hc.Em rfl ?_
 simp -implicitDefEqProofs [kM]
 refine ai (Qr c hc hr fun H' u' r'=> ?_)
 match r,hr,r',hK with
 |none,hr,r',hK=>
  simp -implicitDefEqProofs [takeN]
  exact hK _ u' r'
 |some [],hr,r',hK=>
  simp -implicitDefEqProofs [takeN]
  exact hK _ u' r'
 |some (b::s),hr,r',hK=>
  have et:takeN 1 (some (b::s))=(some s,[b],true):=by
   simp only[takeN,List.length_cons]
   rw[if_neg (by omega)];rfl
  have hb:=b.toNat_lt
  have hw:IntKind.i64.wrap ((b.toNat:Nat):Int)=((b.toNat:Nat):Int):=wrap64 (by omega) (by omega)
  rw[et]at r' ⊢
  simp -implicitDefEqProofs [ak,hw]
  exact hK _ u' r'
theorem xR {p:Nat}{r:Rd}(hr:IQ H p r)(hK: ∀H',aa.upd [p] H H'→IQ H' p (cB r).1→K (ak (cB r).2) H'):
 c.C (c.F zg) [.pointer (some ⟨p,0,none⟩)] H K:=by
 refine c.enter hc.Eg rfl ?_
 simp -implicitDefEqProofs [kJ]
 refine ai (qC c hc hr fun H1 u1 r1=> ?_)
 simp -implicitDefEqProofs []
 refine ai (Qr c hc r1 fun H2 u2 r2=> ?_)
 simp -implicitDefEqProofs []
 exact hK _ (u1.trans u2) r2
def nH (t:List UInt8):List Value:=[ak t]
omit hc in
theorem qaL (r:Rd):rdC r=[ak (NH r),.bool r.isNone]:=by cases r <;> rfl
theorem qaM {p:Nat}{r:Rd}(hr:IQ H p r)(hK:K (.int .i64 ((NH r).length:Nat)) H):c.C (c.F zl) [.pointer (some ⟨p,0,none⟩)] H K:=by
 refine c.enter hc.El rfl ?_
 have h3:=hr.2.2
 rw[qaL]at h3
 simp only[ak]at h3
 simp -implicitDefEqProofs [kL,aU,h3]
 exact hK
def rdE (r:Rd):Int:=if r=some []then 0 else 3
theorem Mr {p:Nat}{r:Rd}(hr:IQ H p r)(hK:K (.int .i64 (rdE r)) H):c.C (c.F zh) [.pointer (some ⟨p,0,none⟩)] H K:=by
 refine c.enter hc.Eh rfl ?_
 have h3:=hr.2.2
 rw[qaL]at h3
 simp only[ak]at h3
 unfold rdE at hK
 match r,hK,h3 with
 |none,hK,h3=>
  simp -implicitDefEqProofs [gB,aU,h3]
  simpa using hK
 |some [],hK,h3=>
  simp -implicitDefEqProofs [gB,aU,h3,NH,jI]
  simpa using hK
 |some (b::s),hK,h3=>
  simp -implicitDefEqProofs [gB,aU,h3,NH,jI]
  simpa using hK
end
end
end
theorem iK {n:Int}(h1: -9223372036854775808≤n)(h2:n<9223372036854775808)(t:List UInt8):bD (some (encI n++t))=(some t,n):=by
 simp only[bD,qaI h1 h2,List.drop_left,qcK]
theorem nk {x:List UInt8}(hx:x.length≤1000000000)(t:List UInt8):cB (some (encI x.length++x++t))=(some t,x):=by
 unfold cB
 rw[List.append_assoc,iK (by omega) (by omega)]
 simp only[takeN]
 rw[if_neg (by simp;omega)]
 simp
def okI (n:Int):Prop:= -9223372036854775808≤n∧n<9223372036854775808
theorem oK: ∀x:List UInt8,Op.bytesLess x x=false
 |[]=>rfl
 |a::x=>by
  rw[Op.bytesLess,oK x]
  simp[UInt8.lt_irrefl]
theorem EL: ∀{x y z:List UInt8},Op.bytesLess x y=true→Op.bytesLess y z=true→Op.bytesLess x z=true
 |[],[],_,h,_=>by cases h
 |[],_::_,[],_,h=>by cases h
 |[],_::_,_::_,_,_=>rfl
 |_::_,[],_,h,_=>by cases h
 |_::_,_::_,[],_,h=>by cases h
 |a::x,b::y,c::z,h,k=>by
  simp only[Op.bytesLess,Bool.or_eq_true,decide_eq_true_eq,Bool.and_eq_true,beq_iff_eq]at h k ⊢
  rcases h with h|⟨rfl,h⟩
  ·rcases k with k|⟨rfl,k⟩
   ·exact .inl (UInt8.lt_trans h k)
   ·exact .inl h
  ·rcases k with k|⟨rfl,k⟩
   ·exact .inl k
   ·exact .inr ⟨rfl,EL h k⟩
theorem Ms: ∀x y:List UInt8,Op.bytesLess x y=true∨x=y∨Op.bytesLess y x=true
 |[],[]=>.inr (.inl rfl)
 |[],_::_=>.inl rfl
 |_::_,[]=>.inr (.inr rfl)
 |a::x,b::y=>by
  simp only[Op.bytesLess,Bool.or_eq_true,decide_eq_true_eq,Bool.and_eq_true,beq_iff_eq,List.cons.injEq]
  rcases Nat.lt_trichotomy a.toNat b.toNat with h|h|h
  ·exact .inl (.inl (UInt8.lt_iff_toNat_lt.2 h))
  ·have e:=UInt8.toNat_inj.1 h
   subst e
   rcases Ms x y with h|h|h
   ·exact .inl (.inr ⟨rfl,h⟩)
   ·exact .inr (.inl ⟨rfl,h⟩)
   ·exact .inr (.inr (.inr ⟨rfl,h⟩))
  ·exact .inr (.inr (.inl (UInt8.lt_iff_toNat_lt.2 h)))
theorem qaN {x y:List UInt8}(h:Op.bytesLess x y=true):Op.bytesLess y x=false:=by
 cases hc:Op.bytesLess y x with
 |false=>rfl
 |true=>have:=EL h hc;rw[oK]at this;cases this
theorem qhN {x y:List UInt8}(h:Op.bytesLess x y=true):x≠y:=by
 rintro rfl;rw[oK]at h;cases h
structure aP where
 nm:List UInt8
 ino:Int
 deriving DecidableEq
def oL (e:aP):List Value:=[ak e.nm,.int .i64 e.ino]
def eV (e:aP):Value:=.agg #[ak e.nm,.int .i64 e.ino]
def dz (L:List aP):Prop:=L.Pairwise fun a b=>Op.bytesLess a.nm b.nm=true
def lm (s:List UInt8):Bool:=decide (s≠[]∧s.length≤28∧s≠[46]∧s≠[46,46]∧¬ (47:UInt8) ∈ s∧¬ (0:UInt8) ∈ s)
def dW (s:List UInt8):List aP→Nat
 |[]=>0
 |e::L=>if Op.bytesLess e.nm s then dW s L+1 else 0
def iE (L:List aP)(s:List UInt8):Bool:=match L[dW s L]? with|some e=>decide (e.nm=s)|none=>false
theorem yR (s:List UInt8): ∀L:List aP,dW s L≤L.length
 |[]=>Nat.le_refl _
 |e::L=>by
  have:=yR s L
  simp only[dW,List.length_cons]
  split <;> omega
theorem Kh {s:List UInt8}: ∀{L:List aP} {i:Nat} {e:aP},i<dW s L→L[i]? =some e→Op.bytesLess e.nm s=true
 |[],i,e,h,_=>by simp[dW]at h
 |w::L,i,e,h,he=>by
  simp only[dW]at h
  split at h
  ·cases i with
   |zero=>
    simp only[List.getElem?_cons_zero,Option.some.injEq]at he
    subst he;assumption
   |succ i=>exact Kh (L:=L) (i:=i) (by omega) he
  ·omega
theorem EM {s:List UInt8}: ∀{L:List aP} {e:aP},L[dW s L]? =some e→Op.bytesLess e.nm s=false
 |[],e,h=>by simp at h
 |w::L,e,h=>by
  simp only[dW]at h
  split at h
  ·exact EM (L:=L) (by simpa using h)
  ·rename_i hn
   simp only[List.getElem?_cons_zero,Option.some.injEq]at h
   subst h;simpa using hn
theorem VG {s:List UInt8}{L:List aP}(hs:dz L){i:Nat}{e:aP}(hi:dW s L≤i)(he:L[i]? =some e):Op.bytesLess e.nm s=false:=by
 obtain⟨hil,hie⟩:=List.getElem?_eq_some_iff.1 he
 have hp:L[dW s L]? =some L[dW s L]:=List.getElem?_eq_getElem (by omega)
 have h0:=EM hp
 by_cases e0:dW s L=i
 ·subst e0;rw[hp]at he;injection he with he;rw[←he];exact h0
 ·have:=List.pairwise_iff_getElem.1 hs (dW s L) i (by omega) hil (by omega)
  rw[hie]at this
  cases hb:Op.bytesLess e.nm s with
  |false=>rfl
  |true=>rw[EL this hb]at h0;cases h0
theorem xS {L:List aP}{s:List UInt8}(h:iE L s=true): ∃ino,L[dW s L]? =some ⟨s,ino⟩:=by
 unfold iE at h
 cases hq:L[dW s L]? with
 |none=>rw[hq]at h;cases h
 |some e=>
  rw[hq]at h
  simp only[decide_eq_true_eq]at h
  exact⟨e.ino,by rw[←h]⟩
def NI (L:List aP)(s:List UInt8):Int:=match L[dW s L]? with|some e=>e.ino|none=>0
def jc (L:List aP)(s:List UInt8)(ino:Int):List aP×Int:=
 if ino<1∨256≤ino then (L,1)else if lm s=false then (L,15)else if iE L s=true then (L,6)else (L.take (dW s L)++⟨s,ino⟩::L.drop (dW s L),0)
def jb (L:List aP)(s:List UInt8):List aP×Int×Int:=if iE L s=true then (L.eraseIdx (dW s L),NI L s,0)else (L,0,7)
def bF (L:List aP)(s:List UInt8):Int×Int:=if iE L s=true then (NI L s,0)else (0,7)
def qD (e:aP):List UInt8:=encI e.nm.length++e.nm++encI e.ino
def wh (L:List aP):List UInt8:=encI L.length++(L.map qD).flatten
def NJ (e:aP):Prop:=lm e.nm=true∧1≤e.ino∧e.ino<256
theorem Ib {L:List aP}{s:List UInt8}{ino:Int}(hs:dz L):dz (jc L s ino).1:=by
 unfold jc
 split
 ·exact hs
 ·rename_i h1
  split
  ·exact hs
  ·split
   ·exact hs
   ·rename_i h3
    have hd:=hs
    unfold dz at hd ⊢
    rw[←List.take_append_drop (dW s L) L,List.pairwise_append]at hd
    rw[List.pairwise_append]
    refine⟨hd.1,List.pairwise_cons.2 ⟨fun e he=> ?_,hd.2.1⟩,fun a ha b hb=> ?_⟩
    ·obtain⟨j,hj⟩:=List.getElem?_of_mem he
     rw[List.getElem?_drop]at hj
     have hge:=VG (s:=s) hs (i:=dW s L+j) (Nat.le_add_right _ _) hj
     rcases Ms s e.nm with h|h|h
     ·exact h
     ·exfalso
      have hj0:j=0:=by
       cases j with
       |zero=>rfl
       |succ j=>
        exfalso
        obtain⟨hl,hle⟩:=List.getElem?_eq_some_iff.1 hj
        have:=List.pairwise_iff_getElem.1 hs (dW s L) (dW s L+(j+1)) (by omega) hl (by omega)
        obtain⟨w,hw⟩: ∃w,L[dW s L]? =some w:=⟨_,List.getElem?_eq_getElem (by omega)⟩
        rw[hle,(List.getElem?_eq_some_iff.1 hw).2]at this
        have h0:=EM hw
        rw[←h,h0]at this;cases this
      subst hj0
      apply h3
      unfold iE
      rw[Nat.add_zero]at hj
      rw[hj]
      simp[h]
     ·rw[h]at hge;cases hge
    ·rcases List.mem_cons.1 hb with rfl|hb
     ·obtain⟨j,hj⟩:=List.getElem?_of_mem ha
      rw[List.getElem?_take]at hj
      split at hj
      ·exact Kh (by assumption) hj
      ·cases hj
     ·exact hd.2.2 a ha b hb
theorem VH {L:List aP}{s:List UInt8}{ino:Int}(hs:dz L)(ho: ∀e ∈ L,NJ e):dz (jc L s ino).1∧(∀e ∈ (jc L s ino).1,NJ e)∧(jc L s ino).1.length≤L.length+1:=by
 unfold jc
 split
 ·exact⟨hs,ho,Nat.le_succ _⟩
 ·rename_i h1
  split
  ·exact⟨hs,ho,Nat.le_succ _⟩
  ·rename_i h2
   split
   ·exact⟨hs,ho,Nat.le_succ _⟩
   ·rename_i h3
    refine⟨?_,fun e he=> ?_,by have:=yR s L;simp only[List.length_append,List.length_take,List.length_cons,List.length_drop];omega⟩
    ·have:=Ib (s:=s) (ino:=ino) hs
     unfold jc at this
     rw[if_neg h1,if_neg h2,if_neg h3]at this
     exact this
    ·rcases List.mem_append.1 he with he|he
     ·exact ho e (List.mem_of_mem_take he)
     ·rcases List.mem_cons.1 he with rfl|he
      ·exact⟨by simpa using h2,by show 1≤ino;omega,by show ino<256;omega⟩
      ·exact ho e (List.mem_of_mem_drop he)
theorem Qs {L:List aP}{s:List UInt8}(hs:dz L)(ho: ∀e ∈ L,NJ e):dz (jb L s).1∧(∀e ∈ (jb L s).1,NJ e)∧(jb L s).1.length≤L.length:=by
 unfold jb
 split
 ·exact⟨hs.sublist (List.eraseIdx_sublist _ _),fun e he=>ho e (List.mem_of_mem_eraseIdx he),by rw[List.length_eraseIdx];split <;> omega⟩
 ·exact⟨hs,ho,Nat.le_refl _⟩
theorem Su {cs r:List Value}{p n:Nat}(h:(cs.drop p).take n=r)(j:Nat)(hj:j<n):cs[p+j]? =r[j]? :=by
 rw[←h,List.getElem?_take,if_pos hj,List.getElem?_drop]
theorem rD (L:List aP): ∀r ∈ L.map oL,r.length=2:=by
 intro r hr
 obtain⟨e,_,rfl⟩:=List.mem_map.1 hr
 rfl
theorem Sv (L:List aP):(L.map oL).flatten.all fo=true:=by
 rw[List.all_eq_true]
 intro x hx
 obtain⟨r,hr,hx⟩:=List.mem_flatten.1 hx
 obtain⟨e,_,rfl⟩:=List.mem_map.1 hr
 simp only[oL,List.mem_cons,List.not_mem_nil,or_false]at hx
 rcases hx with rfl|rfl <;> rfl
section
attribute [local simp] J0 J1 J2 J3 J4 J5 J6 J7 J8 J9 Ja Jb Jc Jd Je Jf Jg Jh Ji Jj Jk Jl Jm Jn Jo Jp Jq Jr Js Jt Ju Jv Jw Jx Jy Jz JA JB JC JD JE JF JG JH JI JJ JK JL JM JN JO JP JQ JR JS bE bO.kind JT JU JV JW JX JY JZ Y0 Y1 Y2 Y3 Y4 Y5 Y6 Y7 Y8 Y9 Ya Yb Yc Yd Ye Yf Yg Yh Yi Yj Yk Yl Ym Yn Yo Yp Yq j3 Yr Ys Yt Yu Yv Yw Yx Yy gy di dI Yz YA YB YC YD YE fq YF YG YH YI YJ YK YL YM YN YO YP YQ YR YS YT YU sP bS kF qm bZ putAt aa.aj aa.aT aa.aK YV YW YX YY YZ B0 B1 B2 B3 B4 B5 B6 B7 B8 B9 Ba Bb Bc Bd Be Bf Bg Bh Bi Bj Bk Bl Bm Bn Bo Bp
section
structure NK (H:aa)(p q:Nat)(L:List aP):Prop where
 lt:p<H.next
 ne:p≠q
 rep: ∃u,H.get p=some (.cells [u] false)∧VS H q u (L.map oL)
 sorted:dz L
theorem NK.upd {H H':aa}{S:List Nat}{p q:Nat}{L:List aP}(h:NK H p q L)(hu:aa.upd S H H')(hp:p ∉ S)(hq:q ∉ S):NK H' p q L:=by
 obtain⟨u,g1,g2⟩:=h.rep
 exact⟨Nat.lt_of_lt_of_le h.lt hu.next,h.ne,⟨u,(hu.get p h.lt hp).trans g1,g2.upd hu hq⟩,h.sorted⟩
theorem NK.le {H H':aa}{p q:Nat}{L:List aP}(h:NK H p q L)(hu:H.le H'):NK H' p q L:=h.upd (hu.upd []) (by simp) (by simp)
section
variable (c:Ctx) (hc:bI c) (hX: ∀(t:List UInt8) (b:UInt8) (H:aa) (K:Value→aa→Prop),(∀n:Int,(n<0↔¬ b ∈ t)→K (.int .i64 n) H)→c.C (c.F 220) [ak t,.int .u8 (b.toNat:Nat)] H K) {H:aa} {K:Value→aa→Prop}
include hc in
theorem VI (hK: ∀H',H.le H'→(∀q,q≠H.next→NK H' H.next q [])→K (.pointer (some ⟨H.next,0,none⟩)) H'):c.C (c.F LG) [] H K:=by
 refine c.enter hc.qaD rfl ?_
 simp -implicitDefEqProofs [A9]
 exact hK _ (H.ax _) fun q hq=>⟨by simp[YX],fun e=>hq e.symm,⟨_,by rw[YV,if_pos rfl],.inl ⟨rfl,rfl⟩⟩,List.Pairwise.nil⟩
include hc in
theorem OC {e:aP}(hK: ∀H',H.le H'→K (ak e.nm) H'):c.C (c.F lM) [eV e] H K:=by
 refine c.enter hc.F3 rfl ?_
 simp -implicitDefEqProofs [lN,eV]
 exact hK _ (H.ax _)
include hc in
theorem UD {u:Value}{L:List aP}{s:List UInt8}(hu:Fs H 2 u (L.map oL))(hs:dz L)(hl:L.length≤1000000)(hK: ∀H',H.le H'→K (.tuple #[.int .i64 (dW s L:Nat),.bool (iE L s)]) H'):
 c.C (c.F nG) [u,ak s,.func (.func (c.F lM)) #[] #[]] H K:=by
 refine c.enter hc.pI rfl ?_
 have hu':=hu
 obtain⟨a,cap,rfl,_⟩:=hu
 simp only[List.length_map]at hu' ⊢
 have qhO:=yR s L
 simp -implicitDefEqProofs [fw]
 refine cz c.mono (fun k T H'=> ∃lo hi:Nat,lo≤hi∧lo≤dW s L∧dW s L≤hi∧hi≤L.length∧k=hi-lo∧T 0 = .slice a L.length cap∧T 1=ak s∧T 2 = .func (.func (c.F lM)) #[] #[]∧T 8 = .int .i64 lo∧T 9 = .int .i64 hi∧H.le H') L.length ?_ ?_
 ·refine⟨0,L.length,by omega,by omega,by omega,by omega,by omega,?_⟩
  simp -implicitDefEqProofs []
  exact aa.le_refl _
 ·rintro k T H' ⟨lo,hi,h1,h2,h3,h4,rfl,t0,t1,t2,t8,t9,hle⟩
  by_cases hlh:lo<hi
  ·have qcO:(lo:Int)<(hi:Int):=by omega
   obtain⟨mid,hmid⟩: ∃mid,mid=(lo+hi)/2:=⟨_,rfl⟩
   have hm1:lo≤mid:=by omega
   have hm2:mid<hi:=by omega
   have hmL:mid<L.length:=by omega
   have hmI:(mid:Int)<(L.length:Int):=by omega
   have w1:IntKind.i64.wrap ((lo:Int)+(hi:Int))=((lo+hi:Nat):Int):=by rw[wrap64 (by omega) (by omega)];omega
   have w2:Int.tdiv ((lo+hi:Nat):Int) 2=(mid:Int):=by rw[Int.tdiv_eq_ediv_of_nonneg (by omega),hmid];omega
   have w4:IntKind.i64.wrap (mid:Int)=(mid:Int):=wrap64 (by omega) (by omega)
   have w5:IntKind.i64.wrap ((mid:Int)+1)=(mid:Int)+1:=wrap64 (by omega) (by omega)
   obtain⟨sm,hsm⟩: ∃sm,sm=((lo+hi:Nat):Int):=⟨_,rfl⟩
   rw[←hsm]at w1 w2
   have hx:L[mid]? =some L[mid]:=List.getElem?_eq_getElem hmL
   obtain⟨v,hv⟩: ∃v,v=L[mid]:=⟨_,rfl⟩
   rw[←hv]at hx
   obtain⟨b,o,cp,cs,ro,ea,hb,hget,hrl,hrow,hbd⟩:=hu'.at (i:=mid) (r:=oL v) (by simp[hx])
   rw[List.length_map]at ea
   simp only[Value.slice.injEq]at ea
   obtain⟨rfl,-,rfl⟩:=ea
   simp only[oL]at hrow
   have kD:=(hle.get b hb).trans hget
   simp -implicitDefEqProofs [t0,t1,t2,t8,t9,hlh,qcO,w1,w2,w4,hmL,hmI,kD,hrow,hbd]
   refine ai (OC c hc (e:=v) fun H2 k2=> ?_)
   cases hc1:Op.bytesLess v.nm s with
   |true=>
    have hgt:mid<dW s L:=by
     refine Classical.byContradiction fun hn=> ?_
     have:=VG (s:=s) hs (i:=mid) (by omega) hx
     rw[hc1]at this;cases this
    simp -implicitDefEqProofs [t0,t1,t2,t8,t9,w5,ak,jI,hc1]
    exact⟨hi-(mid+1),by omega,mid+1,hi,by omega,by omega,by omega,by omega,rfl,rfl,by simp,hle.trans k2⟩
   |false=>
    have hge:dW s L≤mid:=by
     refine Classical.byContradiction fun hn=> ?_
     have:=Kh (s:=s) (L:=L) (i:=mid) (by omega) hx
     rw[hc1]at this;cases this
    simp -implicitDefEqProofs [t0,t1,t2,t8,t9,ak,jI,hc1]
    exact⟨mid-lo,by omega,lo,mid,by omega,by omega,by omega,by omega,rfl,rfl,by simp,hle.trans k2⟩
  ·have qcO: ¬ (lo:Int)<(hi:Int):=by omega
   have hlp:lo=dW s L:=by omega
   subst hlp
   by_cases hpl:dW s L<L.length
   ·have hpI:(dW s L:Int)<(L.length:Int):=by omega
    have hx:L[dW s L]? =some L[dW s L]:=List.getElem?_eq_getElem hpl
    obtain⟨v,hv⟩: ∃v,v=L[dW s L]:=⟨_,rfl⟩
    rw[←hv]at hx
    have hth:iE L s=decide (v.nm=s):=by simp[iE,hx]
    rw[hth]at hK
    obtain⟨b,o,cp,cs,ro,ea,hb,hget,hrl,hrow,hbd⟩:=hu'.at (i:=dW s L) (r:=oL v) (by simp[hx])
    rw[List.length_map]at ea
    simp only[Value.slice.injEq]at ea
    obtain⟨rfl,-,rfl⟩:=ea
    simp only[oL]at hrow
    have kD:=(hle.get b hb).trans hget
    simp -implicitDefEqProofs [t0,t1,t2,t8,t9,hlh,qcO,hpl,hpI,kD,hrow,hbd]
    refine ai (OC c hc (e:=v) fun H2 k2=> ?_)
    simp -implicitDefEqProofs [t1,ak,jI]
    exact hK _ (hle.trans k2)
   ·have hpI: ¬ (dW s L:Int)<(L.length:Int):=by omega
    have hth:iE L s=false:=by simp[iE,List.getElem?_eq_none (Nat.le_of_not_lt hpl)]
    rw[hth]at hK
    simp -implicitDefEqProofs [t0,t1,t2,t8,t9,hlh,qcO,hpl,hpI]
    exact hK _ hle
include hc in
theorem Mt {p q:Nat}{L:List aP}{s:List UInt8}(h:NK H p q L)(hl:L.length≤1000000)(hK: ∀H',H.le H'→K (.tuple #[.int .i64 (dW s L:Nat),.bool (iE L s)]) H'):c.C (c.F Ik) [.pointer (some ⟨p,0,none⟩),ak s] H K:=by
 refine c.enter hc.Nu rfl ?_
 obtain⟨u,g1,g2⟩:=h.rep
 simp -implicitDefEqProofs [pW,aU,g1]
 refine ai (UD c hc (g2.Xe (rD _)).1 h.sorted hl fun H' hl=> ?_)
 simp -implicitDefEqProofs []
 exact hK _ hl
include hc hX in
theorem EN {t:List UInt8}{b:UInt8}(hK: ∀n:Int,(n<0↔¬ b ∈ t)→K (.int .i64 n) H):c.C (c.F zf) [ak t,.int .u8 (b.toNat:Nat)] H K:=by
 refine c.enter hc.strings_IndexByte rfl ?_
 simp -implicitDefEqProofs [kH]
 refine ai (c.enter hc.iX rfl ?_)
 simp -implicitDefEqProofs [dw]
 refine ai (hX t b _ _ fun n hn=> ?_)
 simp -implicitDefEqProofs []
 exact hK n hn
include hc hX in
theorem Sw {s:List UInt8}(hl:s.length≤1000000)(hK:K (.bool (lm s)) H):c.C (c.F R8) [ak s] H K:=by
 refine c.enter hc.W9 rfl ?_
 unfold lm at hK
 by_cases h1:s=[]
 ·subst h1
  simp -implicitDefEqProofs [jV,ak,jI]
  simpa using hK
 ·by_cases h2:s.length≤28
  ·have h2I:(s.length:Int)≤28:=by omega
   by_cases h3:s=[46]
   ·subst h3
    simp -implicitDefEqProofs [jV,ak,jI]
    simpa using hK
   ·by_cases h4:s=[46,46]
    ·subst h4
     simp -implicitDefEqProofs [jV,ak,jI]
     simpa using hK
    ·simp -implicitDefEqProofs [jV,ak,jI,h1,h2,h2I,h3,h4]
     refine ai (EN c hc hX (t:=s) (b:=47) fun n hn=> ?_)
     by_cases h5:(47:UInt8) ∈ s
     ·have h6: ¬ n<0:=fun h=>hn.1 h h5
      simp -implicitDefEqProofs [h6]
      simpa[h5]using hK
     ·have h6:n<0:=hn.2 h5
      simp -implicitDefEqProofs [h6,ak]
      refine ai (EN c hc hX (t:=s) (b:=0) fun m hm=> ?_)
      by_cases h7:(0:UInt8) ∈ s
      ·have h8: ¬ m<0:=fun h=>hm.1 h h7
       simp -implicitDefEqProofs [h8]
       simpa[h7]using hK
      ·have h8:m<0:=hm.2 h7
       simp -implicitDefEqProofs [h8]
       simpa[h1,h2,h3,h4,h5,h7]using hK
  ·have h2I: ¬ (s.length:Int)≤28:=by omega
   simp -implicitDefEqProofs [jV,ak,jI,h1,h2,h2I]
   simpa[h2]using hK
end
end
section
theorem UE (rows:List (List Value))(i:Nat):(rows.eraseIdx i).flatten=(rows.take i).flatten++(rows.drop (i+1)).flatten:=by
 rw[List.eraseIdx_eq_take_drop_succ,List.flatten_append]
theorem UF {cs:List Value}{rows:List (List Value)}(h4: ∀r ∈ rows,r.length=2)(h:cs.take (rows.length*2)=rows.flatten){i:Nat}(hi:i≤rows.length):cs.take (i*2)=(rows.take i).flatten:=by
 have:=congrArg (List.take (i*2)) h
 have hsp:=vO rows i
 have hpre:((rows.take i).flatten).length=i*2:=by rw[gW _ 2 fun r hr=>h4 r (List.mem_of_mem_take hr),List.length_take];omega
 rw[List.take_take,Nat.min_eq_left (by omega),hsp,←hpre,List.take_left,hpre]at this
 exact this
theorem UG {cs:List Value}{rows:List (List Value)}(h4: ∀r ∈ rows,r.length=2)(h:cs.take (rows.length*2)=rows.flatten){i:Nat}(hi:i≤rows.length):(cs.drop (i*2)).take ((rows.length-i)*2)=(rows.drop i).flatten:=by
 have:=congrArg (List.drop (i*2)) h
 have hsp:=vO rows i
 have hpre:((rows.take i).flatten).length=i*2:=by rw[gW _ 2 fun r hr=>h4 r (List.mem_of_mem_take hr),List.length_take];omega
 rw[List.drop_take,hsp,←hpre,List.drop_left,hpre]at this
 rw[←this]
 congr 1;omega
section
variable (c:Ctx) (hc:bI c) {H:aa} {K:Value→aa→Prop}
include hc in
theorem Xk {q i:Nat}{u:Value}{rows:List (List Value)}(h:VS H q u rows)(h2: ∀r ∈ rows,r.length=2)(hone:rows.flatten.all fo=true)(hi:i<rows.length)(hl:rows.length≤1000000)
 (hK: ∀v H',aa.upd [q] H H'→VS H' q v (rows.eraseIdx i)→K v H'):
 c.C (c.F kg) [u,.int .i64 i,.int .i64 ((i:Int)+1)] H K:=by
 refine c.enter hc.lg rfl ?_
 rcases h with⟨rfl,rfl⟩|⟨cs,hq,rfl,gq,hcs,hcl⟩
 ·simp at hi
 ·obtain⟨N,hN⟩: ∃N,N=rows.length:=⟨_,rfl⟩
  have hcs':=hcs
  rw[←hN]at hcs hcl hi hl ⊢
  have hel:(rows.eraseIdx i).length=N-1:=by rw[List.length_eraseIdx,if_pos (by omega),hN]
  obtain⟨m,hm⟩: ∃m,m=N-(i+1):=⟨_,rfl⟩
  obtain⟨D,hD⟩: ∃D,D=(rows.drop (i+1)).flatten:=⟨_,rfl⟩
  have hDl:D.length=m*2:=by rw[hD,gW _ 2 fun r hr=>h2 r (List.mem_of_mem_drop hr),List.length_drop,hm,hN]
  have hDone:D.all fo=true:=by
   rw[hD,List.all_eq_true]
   intro x hx
   obtain⟨r,hr,hx⟩:=List.mem_flatten.1 hx
   exact List.all_eq_true.1 hone x (List.mem_flatten.2 ⟨r,List.mem_of_mem_drop hr,hx⟩)
  have hFD:(cs.drop ((i+1)*2)).take (m*2)=D:=by
   have:=UG h2 hcs' (i:=i+1) (by omega)
   rw[←hN,←hm]at this
   rw[hD,this]
  have hFA:cs.take (i*2)=(rows.take i).flatten:=UF h2 hcs' (by omega)
  have sQ: ∀(X:aa) (k l:Nat),l≤N→bK X 2 (some ⟨q,0,none⟩) N (dQ+2) k l none=some (.slice (some ⟨q,k*2,none⟩) (l-k) (dQ+2)):=by
   intro X k l hk
   unfold bK
   rw[if_neg (by omega)]
   simp[hk]
  obtain⟨x13,s13⟩: ∃x,bK H 2 (some ⟨q,0,none⟩) N (dQ+2) i (i+1) (some N)=some x:=by
   unfold bK
   rw[if_neg (by omega)]
   simp only[Option.getD_some,Nat.le_refl,true_or,and_true,true_and]
   rw[if_pos (by omega),if_pos (by unfold dQ;omega)]
   exact⟨_,rfl⟩
  have s22:bK H 2 (some ⟨q,0,none⟩) N (dQ+2) 0 i none=some (.slice (some ⟨q,0,none⟩) i (dQ+2)):=by
   have:=sQ H 0 i (by omega)
   rwa[Nat.zero_mul,Nat.sub_zero]at this
  have s25:=sQ H (i+1) N (Nat.le_refl _)
  rw[←hm]at s25
  have fD:aY H 2 m (.slice (some ⟨q,(i+1)*2,none⟩) m (dQ+2))=some D:=by
   simp only[aY,aa.aT,gq]
   by_cases hz:m*2=0
   ·have:D=[]:=List.length_eq_zero_iff.1 (by rw[hDl];exact hz)
    rw[if_pos hz,this]
   ·rw[if_neg hz,if_pos (by omega),hFD]
  obtain⟨cs1,hcs1⟩: ∃c,c=putAt cs (i*2) D:=⟨_,rfl⟩
  have l1:cs1.length=cs.length:=by rw[hcs1];exact vN (by omega)
  have t1:cs1.take ((N-1)*2)=(rows.eraseIdx i).flatten:=by
   rw[hcs1,UE,←hD,←hFA]
   unfold putAt
   rw[List.append_assoc,←List.append_assoc,List.take_append_of_le_length (by simp only[List.length_append,List.length_take];omega),List.take_of_length_le (by simp only[List.length_append,List.length_take];omega)]
  obtain⟨Ha,hHa⟩: ∃X:aa,X=H.set q (.cells cs1 false):=⟨_,rfl⟩
  have ga:Ha.get q=some (.cells cs1 false):=by rw[hHa,YW,if_pos rfl]
  have ua:aa.upd [q] H Ha:=by rw[hHa];exact(aa.jA _ _).set (.inr (by simp)) _
  have na:Ha.next=H.next:=by rw[hHa];rfl
  have e1:i+m=N-1:=by omega
  obtain⟨Hb,hab,gb,ub,nb⟩: ∃Hb,bQ H 2 24 (.slice (some ⟨q,0,none⟩) i (dQ+2)) m D=some (.slice (some ⟨q,0,none⟩) (N-1) (dQ+2),Hb)∧Hb.get q=some (.cells cs1 false)∧aa.upd [q] H Hb∧Hb.next=H.next:=by
   have f1:aY H 2 i (.slice (some ⟨q,0,none⟩) i (dQ+2))=some (cs.take (i*2)):=by
    simp only[aY,aa.aT,gq]
    by_cases hz:i*2=0
    ·rw[if_pos hz,hz];rfl
    ·rw[if_neg hz,if_pos (by omega),List.drop_zero]
   by_cases hm0:m=0
   ·have hD0:D=[]:=List.length_eq_zero_iff.1 (by rw[hDl,hm0])
    refine⟨H,?_,?_,aa.jA _ _,rfl⟩
    ·simp only[bQ]
     rw[if_pos ⟨by omega,by omega,by omega,by omega,by omega⟩,if_pos hm0,if_pos (by unfold dQ;omega),show N-1=i by omega]
    ·have:cs1=cs:=by rw[hcs1,hD0];unfold putAt;simp
     rw[this];exact gq
   ·refine⟨Ha,?_,ga,ua,na⟩
    simp only[bQ,f1,gq]
    rw[if_pos ⟨by omega,by omega,by omega,by omega,by omega⟩,if_neg hm0,if_neg (by omega),if_neg (by omega),if_pos trivial,if_pos hDone,if_pos (by omega),hHa,hcs1,e1,Nat.zero_add]
  obtain⟨Z,hZ⟩: ∃Z,Z=(Builtin.zeroCells #[Value.string ⟨#[]⟩,.int .i64 0] 1).toList:=⟨_,rfl⟩
  have hZl:Z.length=2:=by rw[hZ,Array.length_toList,mJ];rfl
  have qdm:Z.all fo=true:=by
   rw[hZ,List.all_eq_true]
   intro x hx
   simp only[Builtin.zeroCells,Array.toList_map,List.mem_map]at hx
   obtain⟨k,_,rfl⟩:=hx
   have:k % 2=0∨k % 2=1:=by omega
   rcases this with h|h <;> simp[h,fo]
  have s31:bK Hb 2 (some ⟨q,0,none⟩) (N-1) (dQ+2) (N-1) N none=some (.slice (some ⟨q,(N-1)*2,none⟩) 1 (dQ+2)):=by
   unfold bK
   rw[if_neg (by omega)]
   simp only[tN,gb,Option.getD_none,Nat.zero_add]
   rw[if_pos ⟨trivial,by omega,.inr (by rw[decide_eq_true_eq];omega)⟩,show N-(N-1)=1 by omega]
  obtain⟨cs2,hcs2⟩: ∃c,c=putAt cs1 ((N-1)*2) Z:=⟨_,rfl⟩
  have l2:cs2.length=cs1.length:=by rw[hcs2];exact vN (by omega)
  have t2:cs2.take ((N-1)*2)=(rows.eraseIdx i).flatten:=by
   rw[hcs2]
   unfold putAt
   rw[List.append_assoc,List.take_append_of_le_length (by rw[List.length_take];omega),List.take_take,Nat.min_self,t1]
  have st:Hb.aK q ((N-1)*2) Z=some (Hb.set q (.cells cs2 false)):=by
   simp only[aa.aK,gb]
   rw[if_pos ⟨by omega,qdm⟩,hcs2]
  have fo2:List.take ((N-1)*2) cs1++(Z++List.drop ((N-1)*2+Z.length) cs1)=cs2:=by rw[hcs2,putAt,List.append_assoc]
  have k2:(N-1)*2+Z.length≤cs1.length:=by omega
  have hi1:i≤N:=by omega
  have hi2:i+1≤N:=by omega
  have q1:(0:Int)≤(i:Int)+1:=by omega
  have q2:((i:Int)+1).toNat=i+1:=by omega
  have q3:((i:Int)+1)≤(N:Int):=by omega
  have q4:(i:Int)≤(i:Int)+1:=by omega
  have q5:N-1≤N:=by omega
  have q6: ¬ (i:Int)=(i:Int)+1:=by omega
  simp -implicitDefEqProofs [dN,bH,gK,q1,q2,q3,q4,q5,q6,hi1,hi2,s13,s22,s25,iN,fD,hab,s31,←hZ,gb,k2,qdm,fo2,-List.all_eq_true]
  exact hK _ _ (ub.set (.inr (by simp)) _) (.inr ⟨cs2,by simp only[YY];omega,by rw[hel],by rw[YW,if_pos rfl],by rw[hel,t2],by rw[hel];omega⟩)
end
end
section
def kS (c:Ctx):Prop:=∀(H:aa) (K:Value→aa→Prop) (q vb i:Nat) (u:Value) (rows:List (List Value)) (new:List Value),VS H q u rows→(∀r ∈ rows,r.length=2)→rows.flatten.all fo=true →
 H.get vb=some (.cells new false)→vb<H.next→vb≠q→new.length=2→new.all fo=true→i≤rows.length→rows.length≤1000000 →
 (∀q' H',aa.upd [q] H H'→H.next≤q'→VS H' q' (.slice (some ⟨q',0,none⟩) (rows.length+1) (dQ+2)) (rows.take i++new::rows.drop i)→K (.slice (some ⟨q',0,none⟩) (rows.length+1) (dQ+2)) H') →
 c.C (c.F aW) [u,.int .i64 i,.slice (some ⟨vb,0,none⟩) 1 1] H K
def pJ (c:Ctx):Prop:=∀(t:List UInt8) (b:UInt8) (H:aa) (K:Value→aa→Prop),(∀n:Int,(n<0↔¬ b ∈ t)→K (.int .i64 n) H)→c.C (c.F 220) [ak t,.int .u8 (b.toNat:Nat)] H K
section
variable (c:Ctx) (hc:bI c) (hX:pJ c) (hI:kS c) {H:aa} {K:Value→aa→Prop}
include hc hX hI in
theorem VJ {p q:Nat}{L:List aP}{s:List UInt8}{ino:Int}(h:NK H p q L)(hl:L.length≤1000000)(hsl:s.length≤1000000)
 (hK: ∀q' H',aa.upd [p,q] H H'→(q'=q∨H.next≤q')→NK H' p q' (jc L s ino).1→K (.int .i64 (jc L s ino).2) H'):
 c.C (c.F rf) [.pointer (some ⟨p,0,none⟩),ak s,.int .i64 ino] H K:=by
 refine c.enter hc.Qg rfl ?_
 have hpl:=h.lt
 have hso:=Ib (s:=s) (ino:=ino) h.sorted
 unfold jc at hK
 by_cases h1:ino<1
 ·rw[if_pos (.inl h1)]at hK
  simp -implicitDefEqProofs [jW,aU,h1]
  exact hK q _ (aa.jA _ _) (.inl rfl) h
 ·by_cases h2:256≤ino
  ·rw[if_pos (.inr h2)]at hK
   simp -implicitDefEqProofs [jW,aU,h1,h2]
   exact hK q _ (aa.jA _ _) (.inl rfl) h
  ·rw[if_neg (by omega)]at hK
   simp -implicitDefEqProofs [jW,aU,h1,h2]
   refine ai (Sw c hc hX hsl ?_)
   cases hn:lm s with
   |false=>
    rw[if_pos hn]at hK
    simp -implicitDefEqProofs []
    exact hK q _ (aa.jA _ _) (.inl rfl) h
   |true=>
    rw[if_neg (by rw[hn];simp)]at hK
    simp -implicitDefEqProofs []
    refine ai (Mt c hc (s:=s) h hl fun H1 k1=> ?_)
    have h1':=h.le k1
    cases ht:iE L s with
    |true=>
     rw[if_pos ht]at hK
     simp -implicitDefEqProofs []
     exact hK q _ (k1.upd _) (.inl rfl) h1'
    |false=>
     rw[if_neg (by rw[ht];simp)]at hK
     obtain⟨u,g1,g2⟩:=h1'.rep
     have qhO:=yR s L
     obtain⟨H2,hH2⟩: ∃X:aa,X=H1.alloc (.cells [ak s,.int .i64 ino] false):=⟨_,rfl⟩
     have k2:H1.le H2:=by rw[hH2];exact H1.ax _
     have n2:H2.next=H1.next+1:=by rw[hH2];rfl
     have gv2:H2.get H1.next=some (.cells [ak s,.int .i64 ino] false):=by rw[hH2,YV,if_pos rfl]
     have n1:=k1.next
     have gp2:=(k2.get p h1'.lt).trans g1
     obtain⟨q0,hq0,hq1,hq2,hv2⟩: ∃q0,q0≠H1.next∧q0≠p∧(q0=q∨H2.next≤q0)∧VS H2 q0 u (L.map oL):=by
      rcases g2 with⟨hr0,rfl⟩|⟨cs,hq,rfl,gq,hcs,hcl⟩
      ·exact⟨H2.next,by omega,by omega,.inr (Nat.le_refl _),.inl ⟨hr0,rfl⟩⟩
      ·exact⟨q,by omega,Ne.symm h.ne,.inl rfl,VS.le (.inr ⟨cs,hq,rfl,gq,hcs,hcl⟩) k2⟩
     obtain⟨au,cu,eu⟩:=hv2.qaG
     have hins:=fun K2 hk=>hI H2 K2 q0 H1.next (dW s L) u _ (oL ⟨s,ino⟩) hv2 (rD _) (Sv _) gv2 (by omega) (Ne.symm hq0) rfl rfl (by rw[List.length_map];exact qhO) (by rw[List.length_map];exact hl) hk
     rw[List.length_map]at eu
     rw[eu]at hins g1
     simp -implicitDefEqProofs [aU,g1,←hH2]
     refine ai (hins _ fun q' H3 u3 hq' vs3=> ?_)
     have gp3:=(u3.get p (by omega) (by simpa using Ne.symm hq1)).trans gp2
     rw[List.length_map]at vs3 ⊢
     have n3:=u3.next
     have qhP:p≠q':=by omega
     have e1:(L.map oL).take (dW s L)++oL ⟨s,ino⟩::(L.map oL).drop (dW s L)=(L.take (dW s L)++⟨s,ino⟩::L.drop (dW s L)).map oL:=by simp[List.map_take,List.map_drop]
     rw[e1]at vs3
     simp -implicitDefEqProofs [aU,gp3]
     have up3:aa.upd [p,q] H H3:=⟨by omega,fun b hb hn=>by
      rw[u3.get b (by omega) (fun hm=>by
       simp only[List.mem_singleton]at hm
       rcases hq2 with e|e
       ·exact hn (by simp[hm,e])
       ·omega),k2.get b (by omega)]
      exact k1.get b hb⟩
     refine hK q' _ (up3.set (.inr (by simp)) _) (.inr (by omega)) ⟨by simp only[YY];omega,qhP,⟨_,by rw[YW,if_pos rfl],vs3.upd ((aa.jA [p] _).set (.inr (by simp)) _) (by simpa using Ne.symm qhP)⟩,?_⟩
     have:=hso
     unfold jc at this
     rw[if_neg (by omega),if_neg (by rw[hn];simp),if_neg (by rw[ht];simp)]at this
     exact this
include hc in
theorem UH {p q:Nat}{L:List aP}{s:List UInt8}(h:NK H p q L)(hl:L.length≤1000000)
 (hK: ∀H',aa.upd [p,q] H H'→NK H' p q (jb L s).1→K (.tuple #[.int .i64 (jb L s).2.1,.int .i64 (jb L s).2.2]) H'):
 c.C (c.F mM) [.pointer (some ⟨p,0,none⟩),ak s] H K:=by
 refine c.enter hc.Il rfl ?_
 have hpl:=h.lt
 unfold jb at hK
 simp -implicitDefEqProofs [mO,aU]
 refine ai (Mt c hc (s:=s) h hl fun H1 k1=> ?_)
 have h1:=h.le k1
 cases ht:iE L s with
 |false=>
  rw[if_neg (by rw[ht];simp)]at hK
  simp -implicitDefEqProofs []
  exact hK _ (k1.upd _) h1
 |true=>
  rw[if_pos ht]at hK
  obtain⟨ino,hat⟩:=xS ht
  have qaO:NI L s=ino:=by simp[NI,hat]
  rw[qaO]at hK
  obtain⟨hlt,_⟩:=List.getElem?_eq_some_iff.1 hat
  obtain⟨u,g1,g2⟩:=h1.rep
  obtain⟨i,hi⟩: ∃i,i=dW s L:=⟨_,rfl⟩
  rw[←hi]at hat hlt hK ⊢
  have hiI:(i:Int)<(L.length:Int):=by omega
  obtain⟨b,o,cp,cs,ro,ea,hb,hget,hrl,hrow,hbd⟩:=(g2.Xe (rD _)).1.at (i:=i) (r:=oL ⟨s,ino⟩) (by simp[hat])
  rw[List.length_map]at ea
  have hdel:=fun {X:aa} (hv:VS X q u (L.map oL)) K2 hk=>Xk c hc (K:=K2) (i:=i) hv (rD _) (Sv _) (by rw[List.length_map];exact hlt) (by rw[List.length_map];exact hl) hk
  rw[ea]at g1 hdel
  have r1:=Su hrow 1 (by omega)
  simp only[oL,List.getElem?_cons_succ,List.getElem?_cons_zero]at r1
  have hw:IntKind.i64.wrap ((i:Int)+1)=(i:Int)+1:=wrap64 (by omega) (by omega)
  simp -implicitDefEqProofs [aU,g1,hlt,hiI,hget,r1,hw]
  rw[ea]at g2
  refine ai (hdel g2 _ fun v H2 u2 vs2=> ?_)
  have gp2:=(u2.get p h1.lt (by simpa using h.ne)).trans g1
  obtain⟨av,cv,ev⟩:=vs2.qaG
  subst ev
  simp -implicitDefEqProofs [aU,gp2]
  have up2:aa.upd [p,q] H H2:=k1.uA ⟨u2.next,fun b hb hn=>u2.get b hb fun hm=>hn (List.mem_cons_of_mem _ hm)⟩
  have e1:(L.map oL).eraseIdx i=(L.eraseIdx i).map oL:=by rw[List.eraseIdx_eq_take_drop_succ,List.eraseIdx_eq_take_drop_succ,List.map_append,List.map_take,List.map_drop]
  rw[e1]at vs2 ⊢
  exact hK _ (up2.set (.inr (by simp)) _) ⟨by simp only[YY];have:=h1.lt;have:=u2.next;omega,h.ne,⟨_,by rw[YW,if_pos rfl],vs2.upd ((aa.jA [p] _).set (.inr (by simp)) _) (by simpa using Ne.symm h.ne)⟩,h.sorted.sublist (List.eraseIdx_sublist _ _)⟩
include hc in
theorem qaP {p q:Nat}{L:List aP}{s:List UInt8}(h:NK H p q L)(hl:L.length≤1000000)
 (hK: ∀H',H.le H'→K (.tuple #[.int .i64 (bF L s).1,.int .i64 (bF L s).2]) H'):
 c.C (c.F vX) [.pointer (some ⟨p,0,none⟩),ak s] H K:=by
 refine c.enter hc.Nv rfl ?_
 unfold bF at hK
 simp -implicitDefEqProofs [pX]
 refine ai (Mt c hc (s:=s) h hl fun H1 k1=> ?_)
 have h1:=h.le k1
 cases ht:iE L s with
 |false=>
  rw[if_neg (by rw[ht];simp)]at hK
  simp -implicitDefEqProofs []
  exact hK _ k1
 |true=>
  rw[if_pos ht]at hK
  obtain⟨ino,hat⟩:=xS ht
  have qaO:NI L s=ino:=by simp[NI,hat]
  rw[qaO]at hK
  obtain⟨hlt,_⟩:=List.getElem?_eq_some_iff.1 hat
  obtain⟨u,g1,g2⟩:=h1.rep
  obtain⟨i,hi⟩: ∃i,i=dW s L:=⟨_,rfl⟩
  rw[←hi]at hat hlt ⊢
  have hiI:(i:Int)<(L.length:Int):=by omega
  obtain⟨b,o,cp,cs,ro,ea,hb,hget,hrl,hrow,hbd⟩:=(g2.Xe (rD _)).1.at (i:=i) (r:=oL ⟨s,ino⟩) (by simp[hat])
  rw[List.length_map]at ea
  rw[ea]at g1
  have r1:=Su hrow 1 (by omega)
  simp only[oL,List.getElem?_cons_succ,List.getElem?_cons_zero]at r1
  simp -implicitDefEqProofs [aU,g1,hlt,hiI,hget,r1]
  exact hK _ k1
include hc in
theorem qcP {p q:Nat}{L:List aP}(h:NK H p q L)(hK:K (.int .i64 (L.length:Nat)) H):c.C (c.F xI) [.pointer (some ⟨p,0,none⟩)] H K:=by
 refine c.enter hc.Qh rfl ?_
 obtain⟨u,g1,g2⟩:=h.rep
 obtain⟨a,cap,eu⟩:=g2.qaG
 rw[List.length_map]at eu
 rw[eu]at g1
 simp -implicitDefEqProofs [rq,aU,g1]
 exact hK
end
end
end
def Mw (n:Nat)(v:Value):Prop:=∀b o m c,v = .slice (some ⟨b,o,none⟩) m c→n≤b
theorem Mw.nil (n:Nat):Mw n (.slice none 0 0):=fun b o m c e=>by simp at e
theorem Mw.weak {n m:Nat}{v:Value}(h:Mw m v)(hn:n≤m):Mw n v:=fun b o x c e=>Nat.le_trans hn (h b o x c e)
def Blk (n m:Nat)(v:Value):Prop:=∀b o l c,v = .slice (some ⟨b,o,none⟩) l c→n≤b∧b<m
theorem Blk.weak {n n' m m':Nat}{v:Value}(h:Blk n m v)(h1:n'≤n)(h2:m≤m'):Blk n' m' v:=fun b o l c e=>by have:=h b o l c e;omega
theorem Blk.nil (n m:Nat):Blk n m (.slice none 0 0):=fun b o l c e=>by simp at e
theorem Grow.blk {H:aa}{B size:Nat}{v:Value}{rows:List (List Value)}(h:Grow H B size v rows):Blk B H.next v:=by
 intro b o m cc e
 rcases h with⟨_,rfl⟩|⟨_,blk,q1,q2,rfl,_⟩
 ·simp at e
 ·simp only[Value.slice.injEq,Option.some.injEq,Addr.mk.injEq]at e
  omega
def inB (u:Value)(b:Nat):Prop:=∃o m c,u = .slice (some ⟨b,o,none⟩) m c∧m≠0
theorem Cq.in {H:aa}{size:Nat}{u:Value}{rows:List (List Value)}(h:Cq H size u rows){b:Nat}(hb:inB u b):b<H.next:=by
 obtain⟨o,m,c,rfl,hm⟩:=hb
 obtain⟨⟨a',cap',e,h2⟩,_⟩:=h
 simp only[Value.slice.injEq]at e
 obtain⟨rfl,rfl,rfl⟩:=e
 obtain⟨b',o',cs,ro,e,hb,_⟩:=h2 (fun e=>hm (by rw[e];rfl))
 simp only[Option.some.injEq,Addr.mk.injEq]at e
 omega
theorem Cq.kept {H H':aa}{size:Nat}{u:Value}{rows:List (List Value)}(h:Cq H size u rows)(hn:H.next≤H'.next)(hk: ∀b,inB u b→H'.get b=H.get b):Cq H' size u rows:=by
 obtain⟨⟨a,cap,rfl,h2⟩,h3⟩:=h
 refine⟨⟨a,cap,rfl,fun hr=> ?_⟩,h3⟩
 obtain⟨b,o,cs,ro,rfl,hb,hget,hrow⟩:=h2 hr
 exact⟨b,o,cs,ro,rfl,by omega,(hk b ⟨o,_,_,rfl,fun e=>hr (List.length_eq_zero_iff.1 e)⟩).trans hget,hrow⟩
theorem Blk.in {n m:Nat}{u:Value}(h:Blk n m u){b:Nat}(hb:inB u b):n≤b∧b<m:=by
 obtain⟨o,l,c,e,_⟩:=hb
 exact h b o l c e
theorem Mw.in {n:Nat}{u:Value}(h:Mw n u){b:Nat}(hb:inB u b):n≤b:=by
 obtain⟨o,l,c,e,_⟩:=hb
 exact h b o l c e
def Ic (S:Nat→Prop)(H H':aa):Prop:=H.next≤H'.next∧∀b,S b→H'.get b=H.get b
theorem Ic.trans {S:Nat→Prop}{A B C:aa}(h:Ic S A B)(k:Ic S B C):Ic S A C:=⟨Nat.le_trans h.1 k.1,fun b hb=>(k.2 b hb).trans (h.2 b hb)⟩
section
attribute [local simp] J0 J1 J2 J3 J4 J5 J6 J7 J8 J9 Ja Jb Jc Jd Je Jf Jg Jh Ji Jj Jk Jl Jm Jn Jo Jp Jq Jr Js Jt Ju Jv Jw Jx Jy Jz JA JB JC JD JE JF JG JH JI JJ JK JL JM JN JO JP JQ JR JS bE bO.kind JT JU JV JW JX JY JZ Y0 Y1 Y2 Y3 Y4 Y5 Y6 Y7 Y8 Y9 Ya Yb Yc Yd Ye Yf Yg Yh Yi Yj Yk Yl Ym Yn Yo Yp Yq j3 Yr Ys Yt Yu Yv Yw Yx Yy gy di dI Yz YA YB YC YD YE fq YF YG YH YI YJ YK YL YM YN YO YP YQ YR YS YT YU sP bS kF qm bZ putAt aa.aj aa.aT aa.aK YV YW YX YY YZ B0 B1 B2 B3 B4 B5 B6 B7 B8 B9 Ba Bb Bc Bd Be Bf Bg Bh Bi Bj Bk Bl Bm Bn Bo Bp
section
theorem iL {b x:List UInt8}(h:b.length+x.length≤65536):Wr.lay ⟨65536,b,0⟩ x=⟨65536,b++x,0⟩:=by
 unfold Wr.lay
 rw[if_neg (by simp),if_neg (by simp only[List.length_append];omega)]
theorem Xl (L:List aP)(i:Nat):((L.take i).map qD).flatten.length≤(L.map qD).flatten.length:=by
 rw[List.map_take]
 have:=List.take_append_drop i (L.map qD)
 have h2:=congrArg (fun l=>l.flatten.length) this
 simp only[List.flatten_append,List.length_append]at h2
 omega
def UI (L:List aP)(i:Nat):List UInt8:=((L.take i).map qD).flatten
theorem Qt {e:aP}(h:NJ e):e.nm.length≤28∧(qD e).length≤48:=by
 obtain⟨h1,h2,h3⟩:=h
 simp only[lm,decide_eq_true_eq]at h1
 have l1:=bN (n:=(e.nm.length:Int)) (by omega) (by omega)
 have l2:=bN (n:=e.ino) (by omega) (by omega)
 refine⟨h1.2.1,?_⟩
 unfold qD
 simp only[List.length_append];omega
theorem GD {L:List aP}(h: ∀e ∈ L,NJ e):(L.map qD).flatten.length≤L.length*48:=by
 induction L with
 |nil=>simp
 |cons e L ih=>
  have h1:=(Qt (h e (by simp))).2
  have h2:=ih fun x hx=>h x (by simp[hx])
  simp only[List.map_cons,List.flatten_cons,List.length_append,List.length_cons]
  omega
section
variable (c:Ctx) (hc:bI c) (hC:eU c) {H:aa} {K:Value→aa→Prop}
include hc in
theorem qaQ {p q:Nat}{L:List aP}(h:NK H p q L)(hl:L.length≤1000000)
 (hK: ∀v H',H.le H'→Grow H' H.next 1 v (L.map fun e=>nH e.nm)→K v H'):c.C (c.F lG) [.pointer (some ⟨p,0,none⟩)] H K:=by
 refine c.enter hc.Af rfl ?_
 obtain⟨u,g1,g2⟩:=h.rep
 have hs:=(g2.Xe (rD _)).1
 obtain⟨a,cap,eu⟩:=g2.qaG
 rw[List.length_map]at eu
 subst eu
 simp -implicitDefEqProofs [lH,aU,g1]
 refine cz c.mono (fun k T H'=> ∃i:Nat,i≤L.length∧k=L.length-i∧T 11 = .slice a L.length cap∧T 12 = .int .i64 L.length∧T 13 = .int .i64 i∧H.le H'∧Grow H' H.next 1 (T 3) ((L.take i).map fun e=>nH e.nm)) L.length ?_ ?_
 ·refine⟨0,by omega,rfl,?_⟩
  simp -implicitDefEqProofs []
  exact⟨aa.le_refl _,Grow.nil _ _ _⟩
 ·rintro k T H' ⟨i,hi,rfl,t11,t12,t13,hle,hgr⟩
  have nn:=hle.next
  by_cases hil:i<L.length
  ·have wG:(i:Int)<(L.length:Int):=by omega
   obtain⟨x,hx⟩: ∃x,x=L[i]:=⟨_,rfl⟩
   have hxe:L[i]? =some x:=by rw[hx,List.getElem?_eq_getElem hil]
   obtain⟨b,o,cp,cs,ro,e1,hb,hget,_,hrow,hbd⟩:=hs.at (i:=i) (r:=oL x) (by simp[hxe])
   rw[List.length_map]at e1
   simp only[Value.slice.injEq]at e1
   obtain⟨rfl,-,rfl⟩:=e1
   simp only[oL]at hrow
   have kD:=(hle.get b hb).trans hget
   have hw:IntKind.i64.wrap ((i:Int)+1)=(i:Int)+1:=wrap64 (by omega) (by omega)
   have htk:L.take (i+1)=L.take i++[x]:=by rw[List.take_add_one,hxe];rfl
   obtain⟨HV,hHV⟩: ∃X:aa,X=(H'.alloc (.cells [.string ⟨#[]⟩,.int .i64 0] false)).set H'.next (.cells [ak x.nm,.int .i64 x.ino] false):=⟨_,rfl⟩
   have kV:H'.le HV:=by rw[hHV];exact(H'.ax _).set (Nat.le_refl _) _
   have nV:HV.next=H'.next+1:=by rw[hHV];rfl
   have gV:HV.get H'.next=some (.cells [ak x.nm,.int .i64 x.ino] false):=by rw[hHV,YW,if_pos rfl]
   have kC:=HV.ax (.cells [ak x.nm] false)
   obtain⟨v4,H4,e4,gr4,k4⟩:=(hgr.le (kV.trans kC)).yP (bytes:=16) (new:=nH x.nm) (by simp only[YX];omega) (by omega) (by omega) (by simp only[List.length_map,List.length_take];omega) (by simp only[List.length_map,List.length_take];omega) rfl rfl
   have f4:aY (HV.alloc (.cells [ak x.nm] false)) 1 1 (.slice (some ⟨HV.next,0,none⟩) 1 1)=some [ak x.nm]:=by simp[aY,aa.aT,YV]
   have qhQ:Grow H4 H.next 1 v4 ((L.take (i+1)).map fun e=>nH e.nm):=by rw[htk,List.map_append];exact gr4
   simp only[nH]at e4
   rw[List.map_take]at qhQ
   simp -implicitDefEqProofs [t11,t12,t13,hil,wG,kD,hrow,hbd,←hHV,gV,iN,f4,e4,hw]
   exact⟨L.length-(i+1),by omega,i+1,by omega,rfl,by simp,(((hle.trans kV).trans kC).keep (Nat.le_refl _) |>.trans k4).le (Nat.le_refl _),qhQ⟩
  ·have wG: ¬ (i:Int)<(L.length:Int):=by omega
   rw[List.take_of_length_le (by omega)]at hgr
   simp -implicitDefEqProofs [t11,t12,t13,hil,wG]
   exact hK _ _ hle hgr
include hc hC in
theorem qaR {p q:Nat}{L:List aP}(h:NK H p q L)(hl:L.length≤1000000)(hok: ∀e ∈ L,NJ e)(hfit:(wh L).length≤65536)
 (hK: ∀H',H.le H'→K (ak (wh L)) H'):c.C (c.F vY) [.pointer (some ⟨p,0,none⟩)] H K:=by
 refine c.enter hc.Nw rfl ?_
 obtain⟨u,g1,g2⟩:=h.rep
 have hs:=(g2.Xe (rD _)).1
 obtain⟨a,cap,eu⟩:=g2.qaG
 rw[List.length_map]at eu
 subst eu
 have hpl:=h.lt
 have qdn:=hfit
 unfold wh at qdn
 rw[List.length_append]at qdn
 simp -implicitDefEqProofs [p8,aU]
 refine ai (ni c hC fun w H1 p1 k1 w1=> ?_)
 simp only[show(if (65536:Int)<(if (0:Int)>65536 then 0 else 65536)then (65536:Int)else (if (0:Int)>65536 then 0 else 65536))=65536 from by decide]at w1
 have gp1:=(k1.get p hpl).trans g1
 simp -implicitDefEqProofs [gp1,aU]
 refine ai (qB c hC w1 (by omega) (by omega) fun H2 u2 w2=> ?_)
 rw[iL (by simp;omega),List.nil_append]at w2
 have k2:H.le H2:=k1.vZ u2 (by simp;omega)
 have gp2:=(k2.get p hpl).trans g1
 simp -implicitDefEqProofs [gp2,aU]
 refine cz c.mono (fun k T H'=> ∃i:Nat,i≤L.length∧k=L.length-i∧T 3 = .pointer (some ⟨w,0,none⟩)∧T 21 = .slice a L.length cap∧T 22 = .int .i64 L.length∧T 23 = .int .i64 i∧H.le H'∧Ia H' w ⟨65536,encI L.length++UI L i,0⟩) L.length ?_ ?_
 ·refine⟨0,by omega,rfl,?_⟩
  simp -implicitDefEqProofs []
  exact⟨k2,by simpa[UI]using w2⟩
 ·rintro k T H' ⟨i,hi,rfl,t3,t21,t22,t23,hle,hw'⟩
  have nn:=hle.next
  by_cases hil:i<L.length
  ·have wG:(i:Int)<(L.length:Int):=by omega
   obtain⟨x,hx⟩: ∃x,x=L[i]:=⟨_,rfl⟩
   have hxe:L[i]? =some x:=by rw[hx,List.getElem?_eq_getElem hil]
   have hxo:=hok x (List.mem_of_getElem? hxe)
   have hx28:=(Qt hxo).1
   obtain⟨_,hx1,hx2⟩:=hxo
   obtain⟨b,o,cp,cs,ro,e1,hb,hget,_,hrow,hbd⟩:=hs.at (i:=i) (r:=oL x) (by simp[hxe])
   rw[List.length_map]at e1
   simp only[Value.slice.injEq]at e1
   obtain⟨rfl,-,rfl⟩:=e1
   simp only[oL]at hrow
   have kD:=(hle.get b hb).trans hget
   have hw:IntKind.i64.wrap ((i:Int)+1)=(i:Int)+1:=wrap64 (by omega) (by omega)
   have htk:L.take (i+1)=L.take i++[x]:=by rw[List.take_add_one,hxe];rfl
   have hfl:=Xl L (i+1)
   rw[htk,List.map_append,List.flatten_append,List.length_append]at hfl
   have hP:UI L i=((L.take i).map qD).flatten:=rfl
   rw[←hP]at hfl
   have hle2:([x].map qD).flatten.length=(encI x.nm.length++x.nm).length+(encI x.ino).length:=by simp[qD,Nat.add_assoc]
   obtain⟨HV,hHV⟩: ∃X:aa,X=(H'.alloc (.cells [.string ⟨#[]⟩,.int .i64 0] false)).set H'.next (.cells [ak x.nm,.int .i64 x.ino] false):=⟨_,rfl⟩
   have kV:H'.le HV:=by rw[hHV];exact(H'.ax _).set (Nat.le_refl _) _
   have nV:HV.next=H'.next+1:=by rw[hHV];rfl
   have gV:HV.get H'.next=some (.cells [ak x.nm,.int .i64 x.ino] false):=by rw[hHV,YW,if_pos rfl]
   have hwl:=hw'.1
   simp -implicitDefEqProofs [t3,t21,t22,t23,hil,wG,kD,hrow,hbd,←hHV,gV]
   refine ai (uC c hC (hw'.le kV) (by omega) fun H3 u3 w3=> ?_)
   rw[iL (by simp only[List.length_append]at *;omega)]at w3
   have gV3:=(u3.get H'.next (by omega) (by simp only[List.mem_singleton];omega)).trans gV
   simp -implicitDefEqProofs [t3,gV3]
   refine ai (qB c hC w3 (by omega) (by omega) fun H4 u4 w4=> ?_)
   rw[iL (by simp only[List.length_append]at *;omega)]at w4
   have hpw:H.next≤w:=p1
   have k4:H.le H4:=((hle.trans kV).vZ u3 (by simpa using hpw)).vZ u4 (by simpa using hpw)
   have e4:encI L.length++UI L (i+1)=encI L.length++UI L i++(encI x.nm.length++x.nm)++encI x.ino:=by
    unfold UI
    rw[htk,List.map_append,List.flatten_append]
    simp[qD]
   rw[←e4]at w4
   simp -implicitDefEqProofs [hw,t3,t21,t22,t23]
   exact⟨L.length-(i+1),by omega,i+1,by omega,rfl,by simp,k4,w4⟩
  ·have wG: ¬ (i:Int)<(L.length:Int):=by omega
   unfold UI at hw'
   rw[List.take_of_length_le (by omega)]at hw'
   simp -implicitDefEqProofs [t3,t21,t22,t23,hil,wG]
   refine ai (xQ c hC hw' ?_)
   simp -implicitDefEqProofs [Wr.done]
   exact hK _ hle
end
end
end
end Go.Proofs.YtofpmkhcbijilaaGreatDoorI
