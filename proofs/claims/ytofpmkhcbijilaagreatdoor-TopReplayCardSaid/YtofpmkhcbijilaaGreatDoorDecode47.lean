/- Operations as bytes. / What a path leads to, a folder's names, as bytes. / An operation is done. / An operation is done: Do. / A log of operations is done on a new tree. / The law: a log's beginning saved and read again, and the rest by its bytes, make the tree that all of it makes. / The plain law: -/
import Derived.Test.YtofpmkhcbijilaaGreatDoorTrfA
import Derived.Test.YtofpmkhcbijilaaGreatDoorPlainX
import Derived.Test.YtofpmkhcbijilaaGreatDoorSlW
namespace Go.Proofs.YtofpmkhcbijilaaGreatDoorI
open Go
set_option linter.unusedSimpArgs false
set_option linter.unusedVariables false
section
attribute [local simp] J0 J1 J2 J3 J4 J5 J6 J7 J8 J9 Ja Jb Jc Jd Je Jf Jg Jh Ji Jj Jk Jl Jm Jn Jo Jp Jq Jr Js Jt Ju Jv Jw Jx Jy Jz JA JB JC JD JE JF JG JH JI JJ JK JL JM JN JO JP JQ JR JS bE bO.kind JT JU JV JW JX JY JZ Y0 Y1 Y2 Y3 Y4 Y5 Y6 Y7 Y8 Y9 Ya Yb Yc Yd Ye Yf Yg Yh Yi Yj Yk Yl Ym Yn Yo Yp Yq j3 Yr Ys Yt Yu Yv Yw Yx Yy gy di dI Yz YA YB YC YD YE fq YF YG YH YI YJ YK YL YM YN YO YP YQ YR YS YT YU sP bS kF qm bZ putAt aa.aj aa.aT aa.aK YV YW YX YY YZ B0 B1 B2 B3 B4 B5 B6 B7 B8 B9 Ba Bb Bc Bd Be Bf Bg Bh Bi Bj Bk Bl Bm Bn Bo Bp
section
structure y8 where
 k:Int
 o:Int
 n:Int
 p:List UInt8
 q:List UInt8
 t:List UInt8
def iM (x:y8):List Value:=[.int .i64 x.k,.int .i64 x.o,.int .i64 x.n,ak x.p,ak x.q,ak x.t]
def oV (x:y8):Value:=.agg #[.int .i64 x.k,.int .i64 x.o,.int .i64 x.n,ak x.p,ak x.q,ak x.t]
def ql (x:y8):Int:=if x.k<1∨11<x.k then 1 else if 255<x.p.length∨255<x.q.length∨512<x.t.length then 2 else 0
def U4 (x:y8):List UInt8:=[UInt8.ofNat x.k.toNat]++(encI x.o++(encI x.n++((encI x.p.length++x.p)++((encI x.q.length++x.q)++(encI x.t.length++x.t)))))
theorem GM {x:y8}(h:ql x=0):1≤x.k∧x.k≤11∧x.p.length≤255∧x.q.length≤255∧x.t.length≤512:=by
 unfold ql at h
 split at h
 ·cases h
 ·split at h
  ·cases h
  ·omega
def y8.fit (x:y8):Prop:=okI x.o∧okI x.n
section
variable (c:Ctx) (hc:oJ c) (hC:eU c) {H:aa} {K:Value→aa→Prop}
include hc in
theorem MV {x:y8}(hp:x.p.length≤1000000)(hq:x.q.length≤1000000)(ht:x.t.length≤1000000)(hK: ∀H',H.le H'→K (.int .i64 (ql x)) H'):c.C (c.F Mg) [oV x] H K:=by
 refine c.enter hc.Qo rfl ?_
 obtain⟨k,o,n,p,q,t⟩:=x
 obtain⟨X,hX⟩: ∃X,X=H.alloc (.cells (iM ⟨k,o,n,p,q,t⟩) false):=⟨_,rfl⟩
 have kX:H.le X:=by rw[hX];exact H.ax _
 have gX:X.get H.next=some (.cells (iM ⟨k,o,n,p,q,t⟩) false):=by rw[hX];simp[YV]
 simp only[iM,ak]at gX hX
 unfold ql at hK
 simp only[]at hK hp hq ht
 by_cases h1:k<1
 ·rw[if_pos (.inl h1)]at hK
  simp -implicitDefEqProofs [fU,oV,ak,←hX,gX,h1]
  exact hK _ kX
 ·by_cases h2:11<k
  ·rw[if_pos (.inr h2)]at hK
   simp -implicitDefEqProofs [fU,oV,ak,←hX,gX,h1,h2]
   exact hK _ kX
  ·rw[if_neg (by omega)]at hK
   by_cases h3:255<p.length
   ·have h3I:(255:Int)<(p.length:Int):=by omega
    rw[if_pos (.inl h3)]at hK
    simp -implicitDefEqProofs [fU,oV,←hX,gX,h1,h2,ak,h3,h3I]
    exact hK _ kX
   ·have h3I: ¬ (255:Int)<(p.length:Int):=by omega
    by_cases h4:255<q.length
    ·have h4I:(255:Int)<(q.length:Int):=by omega
     rw[if_pos (.inr (.inl h4))]at hK
     simp -implicitDefEqProofs [fU,oV,←hX,gX,h1,h2,ak,h3,h3I,h4,h4I]
     exact hK _ kX
    ·have h4I: ¬ (255:Int)<(q.length:Int):=by omega
     by_cases h5:512<t.length
     ·have h5I:(512:Int)<(t.length:Int):=by omega
      rw[if_pos (.inr (.inr h5))]at hK
      simp -implicitDefEqProofs [fU,oV,←hX,gX,h1,h2,ak,h3,h3I,h4,h4I,h5,h5I]
      exact hK _ kX
     ·have h5I: ¬ (512:Int)<(t.length:Int):=by omega
      rw[if_neg (by omega)]at hK
      simp -implicitDefEqProofs [fU,oV,←hX,gX,h1,h2,ak,h3,h3I,h4,h4I,h5,h5I]
      exact hK _ kX
include hc hC in
theorem XR {x:y8}(hx:x.fit)(hp:x.p.length≤1000000)(hq:x.q.length≤1000000)(ht:x.t.length≤1000000)
 (hK: ∀H',H.le H'→K (.tuple #[ak (if ql x=0 then U4 x else []),.int .i64 (ql x)]) H'):c.C (c.F IK) [oV x] H K:=by
 refine c.enter hc.NF rfl ?_
 obtain⟨X,hX⟩: ∃X,X=H.alloc (.cells (iM x) false):=⟨_,rfl⟩
 have kX:H.le X:=by rw[hX];exact H.ax _
 have nX:X.next=H.next+1:=by rw[hX];rfl
 have gX:X.get H.next=some (.cells (iM x) false):=by rw[hX];simp[YV]
 simp only[iM]at gX hX
 have hov:oV x = .agg #[.int .i64 x.k,.int .i64 x.o,.int .i64 x.n,ak x.p,ak x.q,ak x.t]:=rfl
 simp -implicitDefEqProofs [qg,hov,←hX,gX]
 refine ai (MV c hc (x:=x) hp hq ht fun H1 k1=> ?_)
 by_cases h0:ql x=0
 ·obtain⟨b1,b2,b3,b4,b5⟩:=GM h0
  obtain⟨⟨f1,f2⟩,f3,f4⟩:=hx
  have l1:=bN f1 f2
  have l2:=bN f3 f4
  have l3:=bN (n:=(x.p.length:Int)) (by omega) (by omega)
  have l4:=bN (n:=(x.q.length:Int)) (by omega) (by omega)
  have l5:=bN (n:=(x.t.length:Int)) (by omega) (by omega)
  rw[if_pos h0,h0]at hK
  rw[h0]
  simp -implicitDefEqProofs []
  refine ai (ni c hC fun q H2 p2 k2 w2=> ?_)
  simp only[show(if (65536:Int)<(if (0:Int)>65536 then 0 else 65536)then (65536:Int)else (if (0:Int)>65536 then 0 else 65536))=65536 from by decide]at w2
  have n1:=k1.next
  have IW:=kX.trans (k1.trans k2)
  have g2:=(k2.get H.next (by omega)).trans ((k1.get H.next (by omega)).trans gX)
  have hne:H.next≠q:=by omega
  have hlt:H.next<H2.next:=by have:=k2.next;omega
  have hm: ∀{A B:aa},aa.upd [q] A B→H.next<A.next→B.get H.next=A.get H.next:=fun u h=>u.get H.next h (by simpa using hne)
  simp -implicitDefEqProofs [g2]
  refine ai (Mo c hC w2 fun H3 u3 w3=> ?_)
  rw[show x.k=((x.k.toNat:Nat):Int)by omega,Wr.qbg (by omega),iL (by simp),List.nil_append]at w3
  have g3:=(hm u3 hlt).trans g2
  have n3:=u3.next
  simp -implicitDefEqProofs [g3]
  refine ai (qB c hC w3 f1 f2 fun H4 u4 w4=> ?_)
  rw[iL (by simp;omega)]at w4
  have g4:=(hm u4 (by omega)).trans g3
  have n4:=u4.next
  simp -implicitDefEqProofs [g4]
  refine ai (qB c hC w4 f3 f4 fun H5 u5 w5=> ?_)
  rw[iL (by simp;omega)]at w5
  have g5:=(hm u5 (by omega)).trans g4
  have n5:=u5.next
  simp -implicitDefEqProofs [g5]
  refine ai (uC c hC w5 (by omega) fun H6 u6 w6=> ?_)
  rw[iL (by simp;omega)]at w6
  have g6:=(hm u6 (by omega)).trans g5
  have n6:=u6.next
  simp -implicitDefEqProofs [g6]
  refine ai (uC c hC w6 (by omega) fun H7 u7 w7=> ?_)
  rw[iL (by simp;omega)]at w7
  have g7:=(hm u7 (by omega)).trans g6
  have n7:=u7.next
  simp -implicitDefEqProofs [g7]
  refine ai (uC c hC w7 (by omega) fun H8 u8 w8=> ?_)
  rw[iL (by simp;omega)]at w8
  simp -implicitDefEqProofs []
  refine ai (xQ c hC w8 ?_)
  have k08:H.le H8:=IW.vZ (((((u3.trans u4).trans u5).trans u6).trans u7).trans u8) (by simp;omega)
  have e:[UInt8.ofNat x.k.toNat]++encI x.o++encI x.n++(encI x.p.length++x.p)++(encI x.q.length++x.q)++(encI x.t.length++x.t)=U4 x:=by
   unfold U4;simp only[List.append_assoc]
  rw[e]
  simp -implicitDefEqProofs [Wr.done]
  exact hK _ k08
 ·rw[if_neg h0]at hK
  simp -implicitDefEqProofs [h0]
  exact hK _ (kX.trans k1)
theorem XT {n:Int}(h1:0≤n)(h2:n≤255)(t:List UInt8):uD (some ([UInt8.ofNat n.toNat]++t))=(some t,n):=by
 have:((UInt8.ofNat n.toNat).toNat:Int)=n:=by
  rw[UInt8.toNat_ofNat'];omega
 simp only[List.cons_append,List.nil_append,uD,this]
include hc hC in
theorem XU {x:y8}(hx:x.fit)(h0:ql x=0)(hK: ∀H',H.le H'→K (.tuple #[oV x,.int .i64 0]) H'):c.C (c.F IL) [ak (U4 x)] H K:=by
 refine c.enter hc.NG rfl ?_
 obtain⟨b1,b2,b3,b4,b5⟩:=GM h0
 obtain⟨⟨f1,f2⟩,f3,f4⟩:=id hx
 have l1:=bN f1 f2
 have l2:=bN f3 f4
 have l3:=bN (n:=(x.p.length:Int)) (by omega) (by omega)
 have l4:=bN (n:=(x.q.length:Int)) (by omega) (by omega)
 have l5:=bN (n:=(x.t.length:Int)) (by omega) (by omega)
 have hl:(U4 x).length≤1000000:=by unfold U4;simp only[List.length_append,List.length_cons,List.length_nil];omega
 obtain⟨X,hX⟩: ∃X,X=H.alloc (.cells [.int .i64 0,.int .i64 0,.int .i64 0,.string ⟨#[]⟩,.string ⟨#[]⟩,.string ⟨#[]⟩] false):=⟨_,rfl⟩
 have kX:H.le X:=by rw[hX];exact H.ax _
 have nX:X.next=H.next+1:=by rw[hX];rfl
 have gX:X.get H.next=some (.cells [.int .i64 0,.int .i64 0,.int .i64 0,.string ⟨#[]⟩,.string ⟨#[]⟩,.string ⟨#[]⟩] false):=by rw[hX];simp[YV]
 have t1:uD (some (U4 x))=(some (encI x.o++(encI x.n++((encI x.p.length++x.p)++((encI x.q.length++x.q)++(encI x.t.length++x.t))))),x.k):=XT (by omega) (by omega) _
 have t2:bD (some (encI x.o++(encI x.n++((encI x.p.length++x.p)++((encI x.q.length++x.q)++(encI x.t.length++x.t))))))=(some (encI x.n++((encI x.p.length++x.p)++((encI x.q.length++x.q)++(encI x.t.length++x.t)))),x.o):=iK f1 f2 _
 have t3:bD (some (encI x.n++((encI x.p.length++x.p)++((encI x.q.length++x.q)++(encI x.t.length++x.t)))))=(some ((encI x.p.length++x.p)++((encI x.q.length++x.q)++(encI x.t.length++x.t))),x.n):=iK f3 f4 _
 have t4:cB (some ((encI x.p.length++x.p)++((encI x.q.length++x.q)++(encI x.t.length++x.t))))=(some ((encI x.q.length++x.q)++(encI x.t.length++x.t)),x.p):=nk (by omega) _
 have t5:cB (some ((encI x.q.length++x.q)++(encI x.t.length++x.t)))=(some (encI x.t.length++x.t),x.q):=nk (by omega) _
 have t6:cB (some (encI x.t.length++x.t))=(some [],x.t):=by
  have:=nk (x:=x.t) (by omega) []
  rw[List.append_nil]at this;exact this
 simp -implicitDefEqProofs [qh,←hX]
 refine ai (vP c hC hl fun q H1 p1 k1 r1=> ?_)
 simp -implicitDefEqProofs []
 refine ai (Sr c hC r1 fun H2 u2 r2=> ?_)
 rw[t1]at r2 ⊢
 simp -implicitDefEqProofs []
 refine ai (qC c hC r2 fun H3 u3 r3=> ?_)
 rw[t2]at r3 ⊢
 simp -implicitDefEqProofs []
 refine ai (qC c hC r3 fun H4 u4 r4=> ?_)
 rw[t3]at r4 ⊢
 simp -implicitDefEqProofs []
 refine ai (xR c hC r4 fun H5 u5 r5=> ?_)
 rw[t4]at r5 ⊢
 simp -implicitDefEqProofs []
 refine ai (xR c hC r5 fun H6 u6 r6=> ?_)
 rw[t5]at r6 ⊢
 simp -implicitDefEqProofs []
 refine ai (xR c hC r6 fun H7 u7 r7=> ?_)
 rw[t6]at r7 ⊢
 have k07:X.le H7:=k1.vZ (((((u2.trans u3).trans u4).trans u5).trans u6).trans u7) (by simp;omega)
 obtain⟨Y,hY⟩: ∃Y,Y=(H7.alloc (.cells [.int .i64 0,.int .i64 0,.int .i64 0,.string ⟨#[]⟩,.string ⟨#[]⟩,.string ⟨#[]⟩] false)).set H7.next (.cells (iM x) false):=⟨_,rfl⟩
 have kY:H7.le Y:=by rw[hY];exact(H7.ax _).set (Nat.le_refl _) _
 have nY:Y.next=H7.next+1:=by rw[hY];rfl
 have gY:Y.get H7.next=some (.cells (iM x) false):=by rw[hY];simp[YW]
 simp only[iM]at hY gY
 simp -implicitDefEqProofs [←hY]
 refine ai (Mr c hC (r7.le kY) ?_)
 have hrd:rdE (some [])=0:=rfl
 simp -implicitDefEqProofs [hrd,gY]
 refine ai (MV c hc (x:=x) (by omega) (by omega) (by omega) fun H8 k8=> ?_)
 rw[h0]
 have n7:=k07.next
 have g8:=(k8.get H7.next (by omega)).trans gY
 have g80:=(k8.get H.next (by omega)).trans ((kY.get H.next (by omega)).trans ((k07.get H.next (by omega)).trans gX))
 have hne: ¬ H.next=H7.next:=by omega
 simp -implicitDefEqProofs [g8,g80,hne]
 exact hK _ ((kX.trans (k07.trans (kY.trans k8))).set (Nat.le_refl _) _)
end
end
section
structure qbs (T:aQ):Prop where
 lo:0≤T.gen
 hi:T.gen≤1000000
 each: ∀n x,T.l n=some x→0≤x.1∧x.1≤1000000
theorem XV (T:aQ)(s:List UInt8):(EQ T s).1.length=5:=by
 unfold EQ
 split
 ·rfl
 ·split
  ·rfl
  ·rename_i x _;obtain⟨g,d⟩:=x;cases d <;> rfl
theorem XW {T:aQ}(hT:T.ok)(hG:qbs T)(s:List UInt8): ∀n ∈ (EQ T s).1,okI n:=by
 have hlt:=pM hT s
 unfold EQ okI
 split
 ·intro n hn;simp at hn;omega
 ·split
  ·intro n hn;simp at hn;omega
  ·rename_i x hx
   obtain⟨g,d⟩:=x
   have hg:=hG.each _ _ hx
   simp only[]at hg
   cases d with
   |file t k=>
    have:=hT.file (aR T s).1 t k (by simp[dS,hx])
    intro n hn
    simp only[qa9,List.mem_cons,List.not_mem_nil,or_false]at hn
    rcases hn with rfl|rfl|rfl|rfl|rfl <;> omega
   |dir L=>
    have:=(hT.dir (aR T s).1 L (by simp[aS,hx])).1
    intro n hn
    simp only[qa9,List.mem_cons,List.not_mem_nil,or_false]at hn
    rcases hn with rfl|rfl|rfl|rfl|rfl <;> omega
theorem Ii: ∀(l:List (List UInt8)) (m:Nat),(∀t ∈ l,t.length≤m)→m≤1000→(gI l).length≤l.length*(m+10)
 |[],m,_,_=>by simp[gI]
 |t::l,m,h,hm=>by
  have ih:=Ii l m (fun x hx=>h x (by simp[hx])) hm
  have h1:=h t (by simp)
  have h2:=bN (n:=(t.length:Int)) (by omega) (by omega)
  unfold gI at ih ⊢
  simp only[List.map_cons,List.flatten_cons,List.length_append,List.length_cons,Nat.succ_mul]
  omega
theorem qbt {T:aQ}(hT:T.ok)(s:List UInt8):(MF T s).1.length≤1000∧∀t ∈ (MF T s).1,t.length≤28:=by
 unfold MF
 split
 ·simp
 ·split
  ·simp
  ·rename_i L hd
   obtain⟨h1,h2⟩:=hT.dir _ L hd
   refine⟨by simpa using h1,fun t ht=> ?_⟩
   simp only[List.mem_map]at ht
   obtain⟨e,he,rfl⟩:=ht
   exact uH (h2 e he).1
section
variable (c:Ctx) (hc:dP c) (hE:oJ c) (hC:eU c) (hP:dD c) (hD:bI c) (hX:jP c) (hN:kE c) (hTy:c.Ty 14≠c.Ty 13) {H:aa} {K:Value→aa→Prop} {w:nu} {a:Nat→Nat} {p:Nat} {T:aQ}
include hc hE hC hP hD hX hN hTy in
theorem qbu {s:List UInt8}(h:gu (c.Ty 14) (c.Ty 13) w a H p T)(hT:T.ok)(hG:qbs T)(hs:s.length≤1000000)(hK: ∀e t H',H.le H'→K (.tuple #[.int .i64 e,ak t]) H'):
 c.C (c.F NC) [.pointer (some ⟨p,0,none⟩),ak s] H K:=by
 refine c.enter hE.Sk rfl ?_
 simp -implicitDefEqProofs [tC]
 refine ai (qba c hc hP hD hX hN hTy h hT hs fun H1 k1=> ?_)
 obtain⟨er,her⟩: ∃er,er=(EQ T s).2:=⟨_,rfl⟩
 have hl5:=XV T s
 have qh2:=XW hT hG s
 generalize (EQ T s).1=l at hl5 qh2 ⊢
 match l,hl5 with
 |[x0,x1,x2,x3,x4],_=>
 rw[←her]
 obtain⟨X,hX0⟩: ∃X,X=(H1.alloc (.cells [.int .i64 0,.int .i64 0,.int .i64 0,.int .i64 0,.int .i64 0] false)).set H1.next (.cells [.int .i64 x0,.int .i64 x1,.int .i64 x2,.int .i64 x3,.int .i64 x4] false):=⟨_,rfl⟩
 have kX:H1.le X:=by rw[hX0];exact(H1.ax _).set (Nat.le_refl _) _
 have nX:X.next=H1.next+1:=by rw[hX0];rfl
 have gX:X.get H1.next=some (.cells [.int .i64 x0,.int .i64 x1,.int .i64 x2,.int .i64 x3,.int .i64 x4] false):=by rw[hX0];simp[YW]
 by_cases h0:er=0
 ·simp -implicitDefEqProofs [h0,←hX0]
  refine ai (ni c hC fun q H2 p2 k2 w2=> ?_)
  simp only[show(if (65536:Int)<(if (0:Int)>65536 then 0 else 65536)then (65536:Int)else (if (0:Int)>65536 then 0 else 65536))=65536 from by decide]at w2
  have g2:=(k2.get H1.next (by omega)).trans gX
  obtain⟨Y,hY⟩: ∃Y,Y=H2.alloc (.cells [.int .i64 x0,.int .i64 x1,.int .i64 x2,.int .i64 x3,.int .i64 x4] false):=⟨_,rfl⟩
  have kY:H2.le Y:=by rw[hY];exact H2.ax _
  have nY:Y.next=H2.next+1:=by rw[hY];rfl
  have gY:Y.get H2.next=some (.cells [.int .i64 x0,.int .i64 x1,.int .i64 x2,.int .i64 x3,.int .i64 x4] false):=by rw[hY];simp[YV]
  have k0Y:=k1.trans (kX.trans (k2.trans kY))
  have hq2:=w2.1
  simp -implicitDefEqProofs [g2,←hY]
  refine cz c.mono (fun k E H'=> ∃(i:Nat) (wr:Wr),i≤5∧k=5-i∧E 8 = .pointer (some ⟨q,0,none⟩)∧E 33 = .slice (some ⟨H2.next,0,none⟩) 5 5∧E 34 = .int .i64 5∧E 35 = .int .i64 i∧aa.upd [q] Y H'∧Ia H' q wr) 5 ?_ ?_
  ·refine⟨0,⟨65536,[],0⟩,by omega,rfl,?_⟩
   simp -implicitDefEqProofs []
   exact⟨aa.jA _ _,w2.le kY⟩
  ·rintro k E G ⟨i,wr,hi,rfl,t8,t33,t34,t35,hu,hw⟩
   by_cases hil:i<5
   ·have fO:(i:Int)<5:=by omega
    have hwj:IntKind.i64.wrap ((i:Int)+1)=(i:Int)+1:=wrap64 (by omega) (by omega)
    have gG:=(hu.get H2.next (by omega) (by simp only[List.mem_singleton];omega)).trans gY
    obtain⟨x,hx⟩: ∃x,[x0,x1,x2,x3,x4][i]? =some x:=⟨[x0,x1,x2,x3,x4][i]'(by simpa using hil),List.getElem?_eq_getElem _⟩
    obtain⟨q1,q2⟩:=qh2 x (List.mem_of_getElem? hx)
    have hxv:[Value.int .i64 x0,.int .i64 x1,.int .i64 x2,.int .i64 x3,.int .i64 x4][i]? =some (.int .i64 x):=by
     have:=congrArg (Option.map (Value.int .i64)) hx
     rw[←List.getElem?_map]at this
     exact this
    obtain⟨Cl,hCl⟩: ∃Cl,Cl=[Value.int .i64 x0,.int .i64 x1,.int .i64 x2,.int .i64 x3,.int .i64 x4]:=⟨_,rfl⟩
    rw[←hCl]at gG hxv
    have qlt:Cl.length=5:=by rw[hCl];rfl
    have hxg:Cl[i]'(by omega) = .int .i64 x:=by
     rw[List.getElem?_eq_getElem (by omega)]at hxv;exact Option.some.inj hxv
    simp -implicitDefEqProofs [t8,t33,t34,t35,hil,fO,gG,hxv,hxg,qlt]
    refine ai (qB c hC hw q1 q2 fun G2 u2 w2'=> ?_)
    simp -implicitDefEqProofs [t8,t33,t34,t35,hwj]
    exact⟨5-(i+1),by omega,i+1,by omega,rfl,by simp,hu.trans u2,_,w2'⟩
   ·have fO: ¬ (i:Int)<5:=by omega
    simp -implicitDefEqProofs [t8,t33,t34,t35,hil,fO]
    refine ai (xQ c hC hw ?_)
    simp -implicitDefEqProofs [Wr.done]
    exact hK _ _ _ (k0Y.vZ hu (by simp only[List.mem_singleton,forall_eq];have:=k1.next;omega))
 ·simp -implicitDefEqProofs [h0,←hX0]
  exact hK er [] _ (k1.trans kX)
include hc hE hC hP hD hX hN hTy in
theorem qbw {s:List UInt8}(h:gu (c.Ty 14) (c.Ty 13) w a H p T)(hT:T.ok)(hs:s.length≤1000000)(hK: ∀e t H',H.le H'→K (.tuple #[.int .i64 e,ak t]) H'):
 c.C (c.F ND) [.pointer (some ⟨p,0,none⟩),ak s] H K:=by
 refine c.enter hE.Sl rfl ?_
 simp -implicitDefEqProofs [tF]
 refine ai (qa8 c hc hP hD hX hN hTy h hT hs fun v H1 k1 s1=> ?_)
 by_cases h0:(MF T s).2=0
 ·simp -implicitDefEqProofs [h0]
  refine ai (ni c hC fun q H2 p2 k2 w2=> ?_)
  simp -implicitDefEqProofs []
  obtain⟨q1,q2⟩:=qbt hT s
  have q3:=Ii _ 28 q2 (by omega)
  refine ai (Xi c hC w2 (s1.le k2) (by omega) (by omega) fun H3 u3 w3=> ?_)
  simp -implicitDefEqProofs []
  refine ai (xQ c hC w3 ?_)
  simp -implicitDefEqProofs [Wr.done]
  exact hK _ _ _ ((k1.trans k2).vZ u3 (by simp only[List.mem_singleton,forall_eq];have:=k1.next;omega))
 ·simp -implicitDefEqProofs [h0]
  exact hK _ [] _ k1
end
end
section
def doT (T:aQ)(x:y8):aQ:=if ¬ ql x=0 then T else if x.k=1 then (UU T x.p).1 else if x.k=2 then (QE T x.p).1 else if x.k=3 then (yU T x.p).1 else if x.k=4 then (GJ T x.p).1
 else if x.k=5 then (yX T x.p x.q).1 else if x.k=6 then (OM T x.p x.q).1 else if x.k=7 then (Cx T x.p x.o x.t).1 else if x.k=8 then (Cy T x.p x.n).1 else T
structure qbx (c:Ctx):Prop where
 a1: ¬ c.Ty 18=c.Ty 17
 a2: ¬ c.Ty 19=c.Ty 17
 a3: ¬ c.Ty 20=c.Ty 17
 a4: ¬ c.Ty 19=c.Ty 18
 a5: ¬ c.Ty 20=c.Ty 18
 a6: ¬ c.Ty 20=c.Ty 19
def gN (b:Nat):Value:=.pointer (some ⟨b,0,none⟩)
def qby (c:Ctx)(p:Nat)(x:y8)(b1 b2:Nat):Value:=if x.k=1 then .iface (c.Ty 17) (.agg #[.func (.func (c.F 456)) #[gN p] #[],ak x.p])else if x.k=2 then .iface (c.Ty 17) (.agg #[.func (.func (c.F 457)) #[gN p] #[],ak x.p])
 else if x.k=3 then .iface (c.Ty 17) (.agg #[.func (.func (c.F 458)) #[gN p] #[],ak x.p])else if x.k=4 then .iface (c.Ty 17) (.agg #[.func (.func (c.F 459)) #[gN p] #[],ak x.p])
 else if x.k=5 then .iface (c.Ty 18) (.agg #[.func (.func (c.F 460)) #[gN p] #[],ak x.p,ak x.q])else if x.k=6 then .iface (c.Ty 18) (.agg #[.func (.func (c.F 461)) #[gN p] #[],ak x.p,ak x.q])
 else if x.k=7 then .iface (c.Ty 19) (.agg #[.func (.func (c.F 490)) #[] #[gN b1,gN b2]])else if x.k=8 then .iface (c.Ty 19) (.agg #[.func (.func (c.F 491)) #[] #[gN b1,gN b2]])
 else if x.k=9 then .iface (c.Ty 20) (.agg #[.func (.func (c.F 492)) #[] #[gN b1,gN b2]])else if x.k=10 then .iface (c.Ty 20) (.agg #[.func (.func (c.F 493)) #[] #[gN b1,gN b2]])else .iface (c.Ty 20) (.agg #[.func (.func (c.F 494)) #[] #[gN b1,gN b2]])
section
variable (c:Ctx) (hc:dP c) (hE:oJ c) (hC:eU c) (hP:dD c) (hD:bI c) (hX:jP c) (CB:pJ c) (hI:kS c) (hN:kE c) (hR:Mx c) (hTy:c.Ty 14≠c.Ty 13) (U0:qbx c) {H:aa} {K:Value→aa→Prop} {w:nu} {a:Nat→Nat} {p:Nat} {T:aQ}
include hE in
theorem qcX {x:y8}(hk1:1≤x.k)(hk2:x.k≤11)(hK: ∀b1 b2 H',H.le H'→b1<H'.next→b2<H'.next→H'.get b1=some (.cells [gN p] false)→H'.get b2=some (.cells (iM x) false)→K (qby c p x b1 b2) H'):c.C (c.F NB) [.pointer (some ⟨p,0,none⟩),oV x] H K:=by
 refine c.enter hE.Sj rfl ?_
 obtain⟨X,hX⟩: ∃X,X=(H.alloc (.cells [.pointer (some ⟨p,0,none⟩)] false)).alloc (.cells (iM x) false):=⟨_,rfl⟩
 have kX:H.le X:=by rw[hX];exact(H.ax _).trans (aa.ax _ _)
 have X8:X.get H.next=some (.cells [.pointer (some ⟨p,0,none⟩)] false):=by rw[hX];simp[YV,YX]
 have Ki:X.get (H.next+1)=some (.cells (iM x) false):=by rw[hX];simp[YV,YX]
 have hk:=hK H.next (H.next+1) X kX (by rw[hX];simp only[YX];omega) (by rw[hX];simp only[YX];omega) X8 Ki
 simp only[iM]at Ki hX
 have hov:oV x = .agg #[.int .i64 x.k,.int .i64 x.o,.int .i64 x.n,ak x.p,ak x.q,ak x.t]:=rfl
 unfold qby gN at hk
 by_cases h1:x.k=1
 ·simp[h1]at hk
  rw[h1]at hX Ki
  simp -implicitDefEqProofs [cO,hov,h1,←hX,X8,Ki]
  exact hk
 by_cases h2:x.k=2
 ·simp[h2]at hk
  rw[h2]at hX Ki
  simp -implicitDefEqProofs [cO,hov,h2,←hX,X8,Ki]
  exact hk
 by_cases h3:x.k=3
 ·simp[h3]at hk
  rw[h3]at hX Ki
  simp -implicitDefEqProofs [cO,hov,h3,←hX,X8,Ki]
  exact hk
 by_cases h4:x.k=4
 ·simp[h4]at hk
  rw[h4]at hX Ki
  simp -implicitDefEqProofs [cO,hov,h4,←hX,X8,Ki]
  exact hk
 by_cases h5:x.k=5
 ·simp[h5]at hk
  rw[h5]at hX Ki
  simp -implicitDefEqProofs [cO,hov,h5,←hX,X8,Ki]
  exact hk
 by_cases h6:x.k=6
 ·simp[h6]at hk
  rw[h6]at hX Ki
  simp -implicitDefEqProofs [cO,hov,h6,←hX,X8,Ki]
  exact hk
 by_cases h7:x.k=7
 ·simp[h7]at hk
  rw[h7]at hX Ki
  simp -implicitDefEqProofs [cO,hov,h7,←hX,X8,Ki]
  exact hk
 by_cases h8:x.k=8
 ·simp[h8]at hk
  rw[h8]at hX Ki
  simp -implicitDefEqProofs [cO,hov,h8,←hX,X8,Ki]
  exact hk
 by_cases h9:x.k=9
 ·simp[h9]at hk
  rw[h9]at hX Ki
  simp -implicitDefEqProofs [cO,hov,h9,←hX,X8,Ki]
  exact hk
 by_cases h10:x.k=10
 ·simp[h10]at hk
  rw[h10]at hX Ki
  simp -implicitDefEqProofs [cO,hov,h10,←hX,X8,Ki]
  exact hk
 by_cases h11:x.k=11
 ·simp[h11]at hk
  rw[h11]at hX Ki
  simp -implicitDefEqProofs [cO,hov,h11,←hX,X8,Ki]
  exact hk
 omega
end
end
section
section
variable (c:Ctx) (hc:dP c) (hE:oJ c) (hC:eU c) (hP:dD c) (hD:bI c) (hX:jP c) (CB:pJ c) (hI:kS c) (hN:kE c) (hR:Mx c) (hTy:c.Ty 14≠c.Ty 13) (U0:qbx c) {H:aa} {K:Value→aa→Prop} {w:nu} {a:Nat→Nat} {p:Nat} {T:aQ}
include hc hE hP hD hX hN hTy in
theorem XX {x:y8}{b1 b2:Nat}(g1:H.get b1=some (.cells [gN p] false))(g2:H.get b2=some (.cells (iM x) false))(h:gu (c.Ty 14) (c.Ty 13) w a H p T)(hT:T.ok)(hp:x.p.length≤1000000)(ht:x.t.length≤1000000)
 (hK: ∀e H',Mv w w H H'→gu (c.Ty 14) (c.Ty 13) w a H' p (Cx T x.p x.o x.t).1→K (.int .i64 e) H'):c.C (c.F 490) [gN b1,gN b2] H K:=by
 refine c.enter hE.Mh rfl ?_
 simp only[iM,gN]at g1 g2 ⊢
 simp -implicitDefEqProofs [oC,g1,g2]
 refine ai (XC c hc hP hD hX hN hTy h hT hp ht fun H1 m1 i1=> ?_)
 simp -implicitDefEqProofs []
 exact hK _ _ m1 i1
include hc hE hP hD hX hN hR hTy in
theorem XY {x:y8}{b1 b2:Nat}(g1:H.get b1=some (.cells [gN p] false))(g2:H.get b2=some (.cells (iM x) false))(h:gu (c.Ty 14) (c.Ty 13) w a H p T)(hT:T.ok)(hp:x.p.length≤1000000)
 (hK: ∀e H',Mv w w H H'→gu (c.Ty 14) (c.Ty 13) w a H' p (Cy T x.p x.n).1→K (.int .i64 e) H'):c.C (c.F 491) [gN b1,gN b2] H K:=by
 refine c.enter hE.Mi rfl ?_
 simp only[iM,gN]at g1 g2 ⊢
 simp -implicitDefEqProofs [oF,g1,g2]
 refine ai (XD c hc hP hD hX hN hR hTy h hT hp fun H1 m1 i1=> ?_)
 simp -implicitDefEqProofs []
 exact hK _ _ m1 i1
include hc hE hP hD hX hN hTy in
theorem XZ {x:y8}{b1 b2:Nat}(g1:H.get b1=some (.cells [gN p] false))(g2:H.get b2=some (.cells (iM x) false))(h:gu (c.Ty 14) (c.Ty 13) w a H p T)(hT:T.ok)(hp:x.p.length≤1000000)
 (hK: ∀e t H',H.le H'→K (.tuple #[.int .i64 e,ak t]) H'):c.C (c.F 492) [gN b1,gN b2] H K:=by
 refine c.enter hE.Mj rfl ?_
 simp only[iM,gN]at g1 g2 ⊢
 simp -implicitDefEqProofs [oG,g1,g2]
 refine ai (qa7 c hc hP hD hX hN hTy h hT hp fun H1 k1=> ?_)
 simp -implicitDefEqProofs []
 exact hK _ _ _ k1
include hc hE hC hP hD hX hN hTy in
theorem X0 {x:y8}{b1 b2:Nat}(g1:H.get b1=some (.cells [gN p] false))(g2:H.get b2=some (.cells (iM x) false))(h:gu (c.Ty 14) (c.Ty 13) w a H p T)(hT:T.ok)(hG:qbs T)(hp:x.p.length≤1000000)
 (hK: ∀e t H',H.le H'→K (.tuple #[.int .i64 e,ak t]) H'):c.C (c.F 493) [gN b1,gN b2] H K:=by
 refine c.enter hE.Mk rfl ?_
 simp only[iM,gN]at g1 g2 ⊢
 simp -implicitDefEqProofs [oH,g1,g2]
 refine ai (qbu c hc hE hC hP hD hX hN hTy h hT hG hp fun e t H1 k1=> ?_)
 simp -implicitDefEqProofs []
 exact hK _ _ _ k1
include hc hE hC hP hD hX hN hTy in
theorem X3 {x:y8}{b1 b2:Nat}(g1:H.get b1=some (.cells [gN p] false))(g2:H.get b2=some (.cells (iM x) false))(h:gu (c.Ty 14) (c.Ty 13) w a H p T)(hT:T.ok)(hp:x.p.length≤1000000)
 (hK: ∀e t H',H.le H'→K (.tuple #[.int .i64 e,ak t]) H'):c.C (c.F 494) [gN b1,gN b2] H K:=by
 refine c.enter hE.Ml rfl ?_
 simp only[iM,gN]at g1 g2 ⊢
 simp -implicitDefEqProofs [oI,g1,g2]
 refine ai (qbw c hc hE hC hP hD hX hN hTy h hT hp fun e t H1 k1=> ?_)
 simp -implicitDefEqProofs []
 exact hK _ _ _ k1
include hc hE hC hP hD hX CB hI hN hR hTy U0 in
theorem qdu {x:y8}(h:gu (c.Ty 14) (c.Ty 13) w a H p T)(hT:T.ok)(hG:qbs T)(hp:x.p.length≤1000000)(hq:x.q.length≤1000000)(ht:x.t.length≤1000000)
 (hK: ∀e t w' a' H',Mv w w' H H'→gu (c.Ty 14) (c.Ty 13) w' a' H' p (doT T x)→K (.tuple #[.int .i64 e,ak t]) H'):c.C (c.F Si) [.pointer (some ⟨p,0,none⟩),oV x] H K:=by
 refine c.enter hE.Xd rfl ?_
 obtain⟨a1,a2,a3,a4,a5,a6⟩:=U0
 obtain⟨X,hX0⟩: ∃X,X=H.alloc (.cells (iM x) false):=⟨_,rfl⟩
 have kX:H.le X:=by rw[hX0];exact H.ax _
 have nX:X.next=H.next+1:=by rw[hX0];rfl
 have gX:X.get H.next=some (.cells (iM x) false):=by rw[hX0];simp[YV]
 have gX':=gX
 simp only[iM]at gX hX0
 have hov:oV x = .agg #[.int .i64 x.k,.int .i64 x.o,.int .i64 x.n,ak x.p,ak x.q,ak x.t]:=rfl
 simp -implicitDefEqProofs [xP,hov,aU,←hX0,gX]
 refine ai (MV c hE (x:=x) hp hq ht fun H1 k1=> ?_)
 unfold doT at hK
 by_cases h0:ql x=0
 ·obtain⟨b1,b2,b3,b4,b5⟩:=GM h0
  rw[if_neg (fun e=>e h0)]at hK
  rw[h0]
  have g1:=(k1.get H.next (by omega)).trans gX
  simp -implicitDefEqProofs [g1]
  refine ai (qcX c hE (x:=x) b1 b2 fun q1 q2 H2 k2 hq1 hq2 f1 f2=> ?_)
  have IW:=kX.trans (k1.trans k2)
  have i2:=h.le IW
  unfold qby
  by_cases h1:x.k=1
  ·simp[h1]at hK ⊢
   obtain⟨Z,hZ⟩: ∃Z,Z=(H2.alloc (.cells [.nilFunc,.string ⟨#[]⟩] false)).set H2.next (.cells [.func (.func (c.F 456)) #[Value.pointer (some ⟨p,0,none⟩)] #[],ak x.p] false):=⟨_,rfl⟩
   have kZ:H2.le Z:=by rw[hZ];exact(H2.ax _).set (Nat.le_refl _) _
   have gZ:Z.get H2.next=some (.cells [.func (.func (c.F 456)) #[Value.pointer (some ⟨p,0,none⟩)] #[],ak x.p] false):=by rw[hZ];simp[YW]
   simp -implicitDefEqProofs [a1,a2,a3,a4,a5,a6,←hZ,gZ,gN]
   refine ai (XF c hc hP hD hX CB hI hN hTy (i2.le kZ) hT hG.lo hG.hi hp fun w4 a4' H4 m4 i4=> ?_)
   simp -implicitDefEqProofs []
   exact hK _ [] _ _ _ (((IW.trans kZ).mv w).trans m4) i4
  by_cases h2:x.k=2
  ·simp[h2]at hK ⊢
   obtain⟨Z,hZ⟩: ∃Z,Z=(H2.alloc (.cells [.nilFunc,.string ⟨#[]⟩] false)).set H2.next (.cells [.func (.func (c.F 457)) #[Value.pointer (some ⟨p,0,none⟩)] #[],ak x.p] false):=⟨_,rfl⟩
   have kZ:H2.le Z:=by rw[hZ];exact(H2.ax _).set (Nat.le_refl _) _
   have gZ:Z.get H2.next=some (.cells [.func (.func (c.F 457)) #[Value.pointer (some ⟨p,0,none⟩)] #[],ak x.p] false):=by rw[hZ];simp[YW]
   simp -implicitDefEqProofs [a1,a2,a3,a4,a5,a6,←hZ,gZ,gN]
   refine ai (UW c hc hP hD hX CB hI hN hTy (i2.le kZ) hT hG.lo hG.hi hp fun w4 a4' H4 m4 i4=> ?_)
   simp -implicitDefEqProofs []
   exact hK _ [] _ _ _ (((IW.trans kZ).mv w).trans m4) i4
  by_cases h3:x.k=3
  ·simp[h3]at hK ⊢
   obtain⟨Z,hZ⟩: ∃Z,Z=(H2.alloc (.cells [.nilFunc,.string ⟨#[]⟩] false)).set H2.next (.cells [.func (.func (c.F 458)) #[Value.pointer (some ⟨p,0,none⟩)] #[],ak x.p] false):=⟨_,rfl⟩
   have kZ:H2.le Z:=by rw[hZ];exact(H2.ax _).set (Nat.le_refl _) _
   have gZ:Z.get H2.next=some (.cells [.func (.func (c.F 458)) #[Value.pointer (some ⟨p,0,none⟩)] #[],ak x.p] false):=by rw[hZ];simp[YW]
   simp -implicitDefEqProofs [a1,a2,a3,a4,a5,a6,←hZ,gZ,gN]
   refine ai (UR c hc hP hD hX hN hTy (i2.le kZ) hT hp fun w4 H4 m4 i4=> ?_)
   simp -implicitDefEqProofs []
   exact hK _ [] _ _ _ (((IW.trans kZ).mv w).trans m4) i4
  by_cases h4:x.k=4
  ·simp[h4]at hK ⊢
   obtain⟨Z,hZ⟩: ∃Z,Z=(H2.alloc (.cells [.nilFunc,.string ⟨#[]⟩] false)).set H2.next (.cells [.func (.func (c.F 459)) #[Value.pointer (some ⟨p,0,none⟩)] #[],ak x.p] false):=⟨_,rfl⟩
   have kZ:H2.le Z:=by rw[hZ];exact(H2.ax _).set (Nat.le_refl _) _
   have gZ:Z.get H2.next=some (.cells [.func (.func (c.F 459)) #[Value.pointer (some ⟨p,0,none⟩)] #[],ak x.p] false):=by rw[hZ];simp[YW]
   simp -implicitDefEqProofs [a1,a2,a3,a4,a5,a6,←hZ,gZ,gN]
   refine ai (XE c hc hP hD hX hN hTy (i2.le kZ) hT hp fun w4 H4 m4 i4=> ?_)
   simp -implicitDefEqProofs []
   exact hK _ [] _ _ _ (((IW.trans kZ).mv w).trans m4) i4
  by_cases h5:x.k=5
  ·simp[h5]at hK ⊢
   obtain⟨Z,hZ⟩: ∃Z,Z=(H2.alloc (.cells [.nilFunc,.string ⟨#[]⟩,.string ⟨#[]⟩] false)).set H2.next (.cells [.func (.func (c.F 460)) #[Value.pointer (some ⟨p,0,none⟩)] #[],ak x.p,ak x.q] false):=⟨_,rfl⟩
   have kZ:H2.le Z:=by rw[hZ];exact(H2.ax _).set (Nat.le_refl _) _
   have gZ:Z.get H2.next=some (.cells [.func (.func (c.F 460)) #[Value.pointer (some ⟨p,0,none⟩)] #[],ak x.p,ak x.q] false):=by rw[hZ];simp[YW]
   simp -implicitDefEqProofs [a1,a2,a3,a4,a5,a6,←hZ,gZ,gN]
   refine ai (UX c hc hP hD hX CB hI hN hTy (i2.le kZ) hT hp hq fun w4 H4 m4 i4=> ?_)
   simp -implicitDefEqProofs []
   exact hK _ [] _ _ _ (((IW.trans kZ).mv w).trans m4) i4
  by_cases h6:x.k=6
  ·simp[h6]at hK ⊢
   obtain⟨Z,hZ⟩: ∃Z,Z=(H2.alloc (.cells [.nilFunc,.string ⟨#[]⟩,.string ⟨#[]⟩] false)).set H2.next (.cells [.func (.func (c.F 461)) #[Value.pointer (some ⟨p,0,none⟩)] #[],ak x.p,ak x.q] false):=⟨_,rfl⟩
   have kZ:H2.le Z:=by rw[hZ];exact(H2.ax _).set (Nat.le_refl _) _
   have gZ:Z.get H2.next=some (.cells [.func (.func (c.F 461)) #[Value.pointer (some ⟨p,0,none⟩)] #[],ak x.p,ak x.q] false):=by rw[hZ];simp[YW]
   simp -implicitDefEqProofs [a1,a2,a3,a4,a5,a6,←hZ,gZ,gN]
   refine ai (qbf c hc hP hD hX CB hI hN hTy (i2.le kZ) hT hp hq fun w4 H4 m4 i4=> ?_)
   simp -implicitDefEqProofs []
   exact hK _ [] _ _ _ (((IW.trans kZ).mv w).trans m4) i4
  by_cases h7:x.k=7
  ·simp[h7]at hK ⊢
   obtain⟨Z,hZ⟩: ∃Z,Z=(H2.alloc (.cells [.nilFunc] false)).set H2.next (.cells [.func (.func (c.F 490)) #[] #[Value.pointer (some ⟨q1,0,none⟩),Value.pointer (some ⟨q2,0,none⟩)]] false):=⟨_,rfl⟩
   have kZ:H2.le Z:=by rw[hZ];exact(H2.ax _).set (Nat.le_refl _) _
   have gZ:Z.get H2.next=some (.cells [.func (.func (c.F 490)) #[] #[Value.pointer (some ⟨q1,0,none⟩),Value.pointer (some ⟨q2,0,none⟩)]] false):=by rw[hZ];simp[YW]
   simp -implicitDefEqProofs [a1,a2,a3,a4,a5,a6,←hZ,gZ,gN]
   refine ai (XX c hc hE hP hD hX hN hTy ((kZ.get _ hq1).trans f1) ((kZ.get _ hq2).trans f2) (i2.le kZ) hT hp ht fun e H4 m4 i4=> ?_)
   simp -implicitDefEqProofs []
   exact hK _ [] _ _ _ (((IW.trans kZ).mv w).trans m4) i4
  by_cases h8:x.k=8
  ·simp[h8]at hK ⊢
   obtain⟨Z,hZ⟩: ∃Z,Z=(H2.alloc (.cells [.nilFunc] false)).set H2.next (.cells [.func (.func (c.F 491)) #[] #[Value.pointer (some ⟨q1,0,none⟩),Value.pointer (some ⟨q2,0,none⟩)]] false):=⟨_,rfl⟩
   have kZ:H2.le Z:=by rw[hZ];exact(H2.ax _).set (Nat.le_refl _) _
   have gZ:Z.get H2.next=some (.cells [.func (.func (c.F 491)) #[] #[Value.pointer (some ⟨q1,0,none⟩),Value.pointer (some ⟨q2,0,none⟩)]] false):=by rw[hZ];simp[YW]
   simp -implicitDefEqProofs [a1,a2,a3,a4,a5,a6,←hZ,gZ,gN]
   refine ai (XY c hc hE hP hD hX hN hR hTy ((kZ.get _ hq1).trans f1) ((kZ.get _ hq2).trans f2) (i2.le kZ) hT hp fun e H4 m4 i4=> ?_)
   simp -implicitDefEqProofs []
   exact hK _ [] _ _ _ (((IW.trans kZ).mv w).trans m4) i4
  by_cases h9:x.k=9
  ·simp[h9]at hK ⊢
   obtain⟨Z,hZ⟩: ∃Z,Z=(H2.alloc (.cells [.nilFunc] false)).set H2.next (.cells [.func (.func (c.F 492)) #[] #[Value.pointer (some ⟨q1,0,none⟩),Value.pointer (some ⟨q2,0,none⟩)]] false):=⟨_,rfl⟩
   have kZ:H2.le Z:=by rw[hZ];exact(H2.ax _).set (Nat.le_refl _) _
   have gZ:Z.get H2.next=some (.cells [.func (.func (c.F 492)) #[] #[Value.pointer (some ⟨q1,0,none⟩),Value.pointer (some ⟨q2,0,none⟩)]] false):=by rw[hZ];simp[YW]
   simp -implicitDefEqProofs [a1,a2,a3,a4,a5,a6,←hZ,gZ,gN]
   refine ai (XZ c hc hE hP hD hX hN hTy ((kZ.get _ hq1).trans f1) ((kZ.get _ hq2).trans f2) (i2.le kZ) hT hp fun e t H4 k4=> ?_)
   simp -implicitDefEqProofs []
   exact hK _ _ w a _ (((IW.trans kZ).trans k4).mv w) ((i2.le kZ).le k4)
  by_cases h10:x.k=10
  ·simp[h10]at hK ⊢
   obtain⟨Z,hZ⟩: ∃Z,Z=(H2.alloc (.cells [.nilFunc] false)).set H2.next (.cells [.func (.func (c.F 493)) #[] #[Value.pointer (some ⟨q1,0,none⟩),Value.pointer (some ⟨q2,0,none⟩)]] false):=⟨_,rfl⟩
   have kZ:H2.le Z:=by rw[hZ];exact(H2.ax _).set (Nat.le_refl _) _
   have gZ:Z.get H2.next=some (.cells [.func (.func (c.F 493)) #[] #[Value.pointer (some ⟨q1,0,none⟩),Value.pointer (some ⟨q2,0,none⟩)]] false):=by rw[hZ];simp[YW]
   simp -implicitDefEqProofs [a1,a2,a3,a4,a5,a6,←hZ,gZ,gN]
   refine ai (X0 c hc hE hC hP hD hX hN hTy ((kZ.get _ hq1).trans f1) ((kZ.get _ hq2).trans f2) (i2.le kZ) hT hG hp fun e t H4 k4=> ?_)
   simp -implicitDefEqProofs []
   exact hK _ _ w a _ (((IW.trans kZ).trans k4).mv w) ((i2.le kZ).le k4)
  by_cases h11:x.k=11
  ·simp[h11]at hK ⊢
   obtain⟨Z,hZ⟩: ∃Z,Z=(H2.alloc (.cells [.nilFunc] false)).set H2.next (.cells [.func (.func (c.F 494)) #[] #[Value.pointer (some ⟨q1,0,none⟩),Value.pointer (some ⟨q2,0,none⟩)]] false):=⟨_,rfl⟩
   have kZ:H2.le Z:=by rw[hZ];exact(H2.ax _).set (Nat.le_refl _) _
   have gZ:Z.get H2.next=some (.cells [.func (.func (c.F 494)) #[] #[Value.pointer (some ⟨q1,0,none⟩),Value.pointer (some ⟨q2,0,none⟩)]] false):=by rw[hZ];simp[YW]
   simp -implicitDefEqProofs [a1,a2,a3,a4,a5,a6,←hZ,gZ,gN]
   refine ai (X3 c hc hE hC hP hD hX hN hTy ((kZ.get _ hq1).trans f1) ((kZ.get _ hq2).trans f2) (i2.le kZ) hT hp fun e t H4 k4=> ?_)
   simp -implicitDefEqProofs []
   exact hK _ _ w a _ (((IW.trans kZ).trans k4).mv w) ((i2.le kZ).le k4)
  omega
 ·rw[if_pos h0]at hK
  simp -implicitDefEqProofs [h0]
  exact hK _ [] w a _ ((kX.trans k1).mv w) (h.le (kX.trans k1))
end
end
section
def sJ (l:List y8):aQ:=l.foldl doT CE
theorem U5 (l:List y8)(x:y8):sJ (l++[x])=doT (sJ l) x:=by unfold sJ;rw[List.foldl_append];rfl
theorem CK {l:List y8}{i:Nat}{x:y8}(h:l[i]? =some x):sJ (l.take (i+1))=doT (sJ (l.take i)) x:=by
 rw[List.take_add_one,h];simp only[Option.toList_some];rw[U5]
structure Tc (T:aQ):Prop where
 ok:T.ok
 gen:qbs T
 right:yc T
 len:(Ah T).length≤1000000
def qbz (l:List y8):Prop:=l.length≤60∧∀x ∈ l,x.p.length≤600∧x.q.length≤600∧x.t.length≤20000
section
variable (c:Ctx) (hc:dP c) (hE:oJ c) (hL:Mm c) (hC:eU c) (hP:dD c) (hD:bI c) (hX:jP c) (CB:pJ c) (hI:kS c) (hN:kE c) (hR:Mx c) (hTy:c.Ty 14≠c.Ty 13) (U0:qbx c) {H:aa} {K:Value→aa→Prop}
include hL in
theorem qbA {u:Value}{l:List y8}(hu:Fs H 6 u (l.map iM))(h0:K (.int .i64 0) H)(h1:qbz l→K (.int .i64 1) H):c.C (c.F ED) [u] H K:=by
 refine c.enter hL.IM rfl ?_
 have hu':=hu
 obtain⟨a,cap,rfl,_⟩:=hu
 simp only[List.length_map]at hu' ⊢
 by_cases h60:60<l.length
 ·have qeI:(60:Int)<(l.length:Int):=by omega
  simp -implicitDefEqProofs [jO,h60,qeI]
  exact h0
 ·have qeI: ¬ (60:Int)<(l.length:Int):=by omega
  simp -implicitDefEqProofs [jO,h60,qeI]
  refine cz c.mono (fun k T H'=> ∃i:Nat,i≤l.length∧k=l.length-i∧T 0 = .slice a l.length cap∧T 3 = .int .i64 i∧H'=H∧∀x ∈ l.take i,x.p.length≤600∧x.q.length≤600∧x.t.length≤20000) l.length ?_ ?_
  ·refine⟨0,by omega,rfl,?_⟩
   simp -implicitDefEqProofs []
  ·rintro k T H' ⟨i,hi,rfl,t0,t3,rfl,hall⟩
   by_cases hil:i<l.length
   ·have wG:(i:Int)<(l.length:Int):=by omega
    obtain⟨d,hd⟩: ∃d,l[i]? =some d:=⟨_,List.getElem?_eq_getElem hil⟩
    obtain⟨b,o,cp,cs,ro,ea,hb,hget,hrl,hrow,hbd⟩:=hu'.at (i:=i) (r:=iM d) (by simp[hd])
    rw[List.length_map]at ea
    simp only[Value.slice.injEq]at ea
    obtain⟨rfl,-,rfl⟩:=ea
    have hw:IntKind.i64.wrap ((i:Int)+1)=(i:Int)+1:=wrap64 (by omega) (by omega)
    have r3:=UN hrow 3 (by omega)
    have r4:=UN hrow 4 (by omega)
    have r5:=UN hrow 5 (by omega)
    simp only[iM,List.getElem?_cons_succ,List.getElem?_cons_zero,ak]at r3 r4 r5
    by_cases h3:600<d.p.length
    ·have h3I:(600:Int)<(d.p.length:Int):=by omega
     simp -implicitDefEqProofs [t0,t3,hil,wG,hget,r3,h3,h3I]
     exact h0
    ·have h3I: ¬ (600:Int)<(d.p.length:Int):=by omega
     by_cases h4:600<d.q.length
     ·have h4I:(600:Int)<(d.q.length:Int):=by omega
      simp -implicitDefEqProofs [t0,t3,hil,wG,hget,r3,h3,h3I,r4,h4,h4I]
      exact h0
     ·have h4I: ¬ (600:Int)<(d.q.length:Int):=by omega
      by_cases h5:20000<d.t.length
      ·have h5I:(20000:Int)<(d.t.length:Int):=by omega
       simp -implicitDefEqProofs [t0,t3,hil,wG,hget,r3,h3,h3I,r4,h4,h4I,r5,h5,h5I]
       exact h0
      ·have h5I: ¬ (20000:Int)<(d.t.length:Int):=by omega
       simp -implicitDefEqProofs [t0,t3,hil,wG,hget,r3,h3,h3I,r4,h4,h4I,r5,h5,h5I,hw]
       refine⟨l.length-(i+1),by omega,i+1,by omega,rfl,by simp,fun e he=> ?_⟩
       rw[List.take_add_one,hd]at he
       simp only[Option.toList_some,List.mem_append,List.mem_singleton]at he
       rcases he with he|rfl
       ·exact hall e he
       ·omega
   ·have wG: ¬ (i:Int)<(l.length:Int):=by omega
    rw[List.take_of_length_le (by omega)]at hall
    simp -implicitDefEqProofs [t0,t3,hil,wG]
    exact h1 ⟨by omega,hall⟩
include hc hE hC hP hD hX CB hI hN hR hTy U0 in
theorem GN {u:Value}{l:List y8}(hu:Fs H 6 u (l.map iM))(hl:qbz l)(hG: ∀i,i≤l.length→Tc (sJ (l.take i)))
 (hK: ∀p v w' a' H',H.le H'→(∀b,b<H.next→w' b=0)→gu (c.Ty 14) (c.Ty 13) w' a' H' p (sJ l)→K (.tuple #[.pointer (some ⟨p,0,none⟩),v]) H'):c.C (c.F IJ) [u] H K:=by
 refine c.enter hE.NE rfl ?_
 have hu':=hu
 obtain⟨a0,cap,rfl,_⟩:=hu
 simp only[List.length_map]at hu' ⊢
 obtain⟨qlI,hlx⟩:=hl
 simp -implicitDefEqProofs [qf]
 refine ai (qcT c hc hD fun w1 a1 H1 k1 z1 i1=> ?_)
 have n1:=k1.next
 have hlI:(l.length:Int)≤17592186044416:=by omega
 have qaY:(l.length:Int)*8≤17592186044416:=by omega
 have hlN:l.length≤17592186044416:=by omega
 have qlu:l.length*8≤17592186044416:=by omega
 obtain⟨Z0,hZ0⟩: ∃Z0:List Value,Z0=List.map (fun x=>[Value.int .i64 0][x % 1]?.getD default) (List.range l.length):=⟨_,rfl⟩
 have qlv:Z0.length=l.length:=by rw[hZ0];simp
 obtain⟨X,hX0⟩: ∃X:aa,X=H1.alloc (.cells Z0 false):=⟨_,rfl⟩
 have kX:H1.le X:=by rw[hX0];exact H1.ax _
 have nX:X.next=H1.next+1:=by rw[hX0];rfl
 have gX:X.get H1.next=some (.cells Z0 false):=by rw[hX0];simp[YV]
 simp -implicitDefEqProofs [hlI,qaY,hlN,qlu,←hZ0,←hX0]
 refine cz c.mono (fun k E H'=> ∃(i:Nat) (w:nu) (a:Nat→Nat) (Cl:List Value),i≤l.length∧k=l.length-i∧E 4 = .pointer (some ⟨H.next,0,none⟩)∧E 5 = .slice (some ⟨H1.next,0,none⟩) l.length l.length∧E 12 = .slice a0 l.length cap∧E 13 = .int .i64 l.length∧E 14 = .int .i64 i ∧
  H.le H'∧H1.next<H'.next∧(∀b,b<H.next→w b=0)∧w H1.next=0∧H'.get H1.next=some (.cells Cl false)∧Cl.length=l.length∧gu (c.Ty 14) (c.Ty 13) w a H' H.next (sJ (l.take i))) l.length ?_ ?_
 ·refine⟨0,w1,a1,Z0,by omega,rfl,?_⟩
  simp -implicitDefEqProofs []
  exact⟨k1.trans kX,by omega,z1,i1.new _ (Nat.le_refl _),gX,qlv,i1.le kX⟩
 ·rintro k E G ⟨i,w,a,Cl,hi,rfl,t4,t5,t12,t13,t14,hle,hnG,hw0,hwB,hgB,hCl,ht⟩
  by_cases hil:i<l.length
  ·have fO:(i:Int)<(l.length:Int):=by omega
   have hw:IntKind.i64.wrap ((i:Int)+1)=(i:Int)+1:=wrap64 (by omega) (by omega)
   obtain⟨x,hx⟩: ∃x,l[i]? =some x:=⟨_,List.getElem?_eq_getElem hil⟩
   obtain⟨b,o,cp,cs,ro,ea,hb,hget,hrl,hrow,hbd⟩:=hu'.at (i:=i) (r:=iM x) (by simp[hx])
   rw[List.length_map]at ea
   simp only[Value.slice.injEq]at ea
   obtain⟨rfl,-,rfl⟩:=ea
   have kD:=(hle.get b hb).trans hget
   obtain⟨hx1,hx2,hx3⟩:=hlx x (List.mem_of_getElem? hx)
   obtain⟨Z,hZ⟩: ∃Z,Z=(G.alloc (.cells [.int .i64 0,.int .i64 0,.int .i64 0,.string ⟨#[]⟩,.string ⟨#[]⟩,.string ⟨#[]⟩] false)).set G.next (.cells (iM x) false):=⟨_,rfl⟩
   have kZ:G.le Z:=by rw[hZ];exact(G.ax _).set (Nat.le_refl _) _
   have nZ:Z.next=G.next+1:=by rw[hZ];rfl
   have gZ:Z.get G.next=some (.cells (iM x) false):=by rw[hZ];simp[YW]
   simp only[iM]at hrow hZ gZ
   have hg:=hG i hi
   simp -implicitDefEqProofs [t4,t5,t12,t13,t14,hil,fO,kD,hrow,hbd,←hZ,gZ]
   refine ai (qdu c hc hE hC hP hD hX CB hI hN hR hTy U0 (x:=x) (ht.le kZ) hg.ok hg.gen (by omega) (by omega) (by omega) fun e t w' a' H5 m5 i5=> ?_)
   have g5:=(m5.get H1.next (by omega) hwB).trans ((kZ.get H1.next hnG).trans hgB)
   have hi1:i+1≤l.length:=by omega
   have hi2:i≤l.length-1:=by omega
   simp -implicitDefEqProofs [t4,t5,t12,t13,t14,hil,fO,g5,hCl,hw,hi1,hi2]
   have kn:=kZ.next
   have mn:=m5.next
   have hln:=hle.next
   have ew:w' H1.next=0:=m5.lab H1.next (by omega) hwB
   have le5:H.le (H5.set H1.next (.cells (List.take i Cl++Value.int .i64 e::List.drop (i+1) Cl) false)):=by
    refine⟨by simp only[YY];omega,fun b' hb'=> ?_⟩
    have hne: ¬ b'=H1.next:=by omega
    rw[YW,if_neg hne,m5.get b' (by omega) (hw0 b' hb'),kZ.get b' (by omega),hle.get b' hb']
   refine⟨l.length-(i+1),by omega,i+1,by omega,rfl,by simp,le5,by omega,w',fun b' hb'=>m5.lab b' (by omega) (hw0 b' hb'),ew,by omega,a',?_⟩
   rw[CK hx]
   refine i5.keep (by simp only[YY];exact Nat.le_refl _) fun b' hb' h0=> ?_
   have hne: ¬ b'=H1.next:=fun e=>h0 (by rw[e];exact ew)
   rw[YW,if_neg hne]
  ·have fO: ¬ (i:Int)<(l.length:Int):=by omega
   rw[List.take_of_length_le (by omega)]at ht
   simp -implicitDefEqProofs [t4,t5,t12,t13,t14,hil,fO]
   exact hK _ _ w a _ hle hw0 ht
end
end
section
theorem qeJ (n:Int)(m:Nat)(hm:m≤1000): ∃k:Nat,k≤m∧IntKind.i64.wrap ((IntKind.u64.wrap n).tmod ((m:Int)+1))=(k:Int):=by
 have h1:=uB n
 have h2:0≤IntKind.u64.wrap n:=by rw[h1];omega
 rw[Int.tmod_eq_emod_of_nonneg h2]
 have h3:=Int.emod_nonneg (IntKind.u64.wrap n) (b:=(m:Int)+1) (by omega)
 have h4:=Int.emod_lt_of_pos (IntKind.u64.wrap n) (b:=(m:Int)+1) (by omega)
 refine⟨(IntKind.u64.wrap n % ((m:Int)+1)).toNat,by omega,?_⟩
 rw[wrap64 (by omega) (by omega)]
 omega
section
variable (c:Ctx) (hc:dP c) (hE:oJ c) (hL:Mm c) (hC:eU c) (hP:dD c) (hD:bI c) (hX:jP c) (CB:pJ c) (hI:kS c) (hN:kE c) (hR:Mx c) (hKI:wm c.P (c.Ty 2) kI) (hTy:c.Ty 14≠c.Ty 13) (U0:qbx c)
 (hA: ∀(H:aa) (K:Value→aa→Prop),(∀H',K (.bool true) H')→c.C (c.F 499) [] H K) {H:aa} {K:Value→aa→Prop}
include hc hE hL hC hP hD hX CB hI hN hR hKI hTy U0 hA in
theorem Td {u:Value}{l:List y8}{n:Int}(hu:Cq H 6 u (l.map iM))(hfit: ∀x ∈ l,x.fit)(hG:qbz l→∀i,i≤l.length→Tc (sJ (l.take i)))(hK: ∀H',K (.bool true) H'):c.C (c.F nI) [u,.int .i64 n] H K:=by
 refine c.enter hL.zG rfl ?_
 have hsr:=hu.1
 obtain⟨a0,cap,rfl⟩:=hu.len
 simp only[List.length_map]at hsr ⊢
 simp -implicitDefEqProofs [jK]
 refine ai (qbA c hL (l:=l) hsr ?_ fun hf=> ?_)
 ·simp -implicitDefEqProofs []
  refine ai (hA _ _ fun H'=> ?_)
  simp -implicitDefEqProofs []
  exact hK _
 ·have hG:=hG hf
  obtain⟨qlJ,hfx⟩:=id hf
  simp -implicitDefEqProofs []
  refine ai (GN c hc hE hC hP hD hX CB hI hN hR hTy U0 (l:=l) hsr hf hG fun pA vA wA aA H1 k1 zA iA=> ?_)
  obtain⟨k,hk,hkw⟩:=qeJ n l.length (by omega)
  have w1:IntKind.i64.wrap ((l.length:Int)+1)=(l.length:Int)+1:=wrap64 (by omega) (by omega)
  have w2:IntKind.u64.wrap ((l.length:Int)+1)=(l.length:Int)+1:=Sm (by omega) (by omega)
  have hne: ¬ (l.length:Int)+1=0:=by omega
  by_cases hl0:0<l.length
  ·have qeB:(0:Int)<(l.length:Int):=by omega
   have hnn:(0:Int)≤(k:Int):=by omega
   obtain⟨v',q1,q2⟩:=(hu.le k1).cut (i:=0) (j:=k) (by omega) (by omega) (by simpa using hk)
   rw[Nat.sub_zero,List.drop_zero,←List.map_take]at q2
   rw[List.length_map]at q1
   have hfk:qbz (l.take k):=⟨by rw[List.length_take];omega,fun x hx=>hfx x (List.mem_of_mem_take hx)⟩
   have hGk: ∀i,i≤(l.take k).length→Tc (sJ ((l.take k).take i)):=fun i hi=>by
    rw[List.length_take]at hi
    rw[List.take_take,Nat.min_eq_left (by omega)];exact hG i (by omega)
   simp -implicitDefEqProofs [hl0,qeB,w1,w2,hne,hkw,gK,bH,hnn,q1,hk]
   refine ai (GN c hc hE hC hP hD hX CB hI hN hR hTy U0 (l:=l.take k) q2.1 hfk hGk fun pB vB wB aB H2 k2 zB iB=> ?_)
   have gk:=hG k hk
   simp -implicitDefEqProofs []
   refine ai (uI c hc hC hD hTy iB gk.ok gk.gen.lo gk.gen.hi gk.gen.each fun H3 k3=> ?_)
   simp -implicitDefEqProofs []
   refine ai (OY c hc hC hD CB hI hKI hTy gk.right gk.gen.lo gk.gen.hi gk.len fun p w a H4 k4 z4 i4=> ?_)
   have k14:=k2.trans (k3.trans k4)
   simp -implicitDefEqProofs []
   refine cz c.mono (fun m E G=> ∃(i:Nat) (w:nu) (a:Nat→Nat),i≤l.length∧m=l.length-i∧E 0 = .slice a0 l.length cap∧E 5 = .pointer (some ⟨pA,0,none⟩)∧E 10 = .pointer (some ⟨p,0,none⟩)∧E 12 = .int .i64 i∧H1.le G∧(∀b,b<H1.next→w b=0)∧gu (c.Ty 14) (c.Ty 13) w a G p (sJ (l.take i))) (l.length-k) ?_ ?_
   ·refine⟨k,w,a,hk,rfl,?_⟩
    simp -implicitDefEqProofs []
    exact⟨k14,fun b hb=>z4 b (by have:=(k2.trans k3).next;omega),i4⟩
   ·clear i4 z4 w a
    rintro m E G ⟨i,w,a,hi,rfl,t0,t5,t10,t12,hle,hw0,ht⟩
    have gi:=hG i hi
    by_cases hil:i<l.length
    ·have fO:(i:Int)<(l.length:Int):=by omega
     have hw:IntKind.i64.wrap ((i:Int)+1)=(i:Int)+1:=wrap64 (by omega) (by omega)
     obtain⟨x,hx⟩: ∃x,l[i]? =some x:=⟨_,List.getElem?_eq_getElem hil⟩
     obtain⟨b,o,cp,cs,ro,ea,hb,hget,hrl,hrow,hbd⟩:=hsr.at (i:=i) (r:=iM x) (by simp[hx])
     rw[List.length_map]at ea
     simp only[Value.slice.injEq]at ea
     obtain⟨rfl,-,rfl⟩:=ea
     have kD:=((k1.trans hle).get b hb).trans hget
     obtain⟨hx1,hx2,hx3⟩:=hfx x (List.mem_of_getElem? hx)
     have hxf:=hfit x (List.mem_of_getElem? hx)
     simp only[iM]at hrow
     have hov:oV x = .agg #[.int .i64 x.k,.int .i64 x.o,.int .i64 x.n,ak x.p,ak x.q,ak x.t]:=rfl
     simp -implicitDefEqProofs [t0,t5,t10,t12,hil,fO,kD,hrow,hbd]
     refine ai (XR c hE hC (x:=x) hxf (by omega) (by omega) (by omega) fun G2 l2=> ?_)
     by_cases h0:ql x=0
     ·rw[if_pos h0,h0]
      simp -implicitDefEqProofs []
      refine ai (XU c hE hC (x:=x) hxf h0 fun G3 l3=> ?_)
      obtain⟨Z,hZ⟩: ∃Z,Z=(G3.alloc (.cells [.int .i64 0,.int .i64 0,.int .i64 0,.string ⟨#[]⟩,.string ⟨#[]⟩,.string ⟨#[]⟩] false)).set G3.next (.cells (iM x) false):=⟨_,rfl⟩
      have kZ:G3.le Z:=by rw[hZ];exact(G3.ax _).set (Nat.le_refl _) _
      have nZ:Z.next=G3.next+1:=by rw[hZ];rfl
      have gZ:Z.get G3.next=some (.cells (iM x) false):=by rw[hZ];simp[YW]
      simp only[iM]at hZ gZ
      have l4:=l2.trans (l3.trans kZ)
      simp -implicitDefEqProofs [hov,t10,←hZ,gZ]
      refine ai (qdu c hc hE hC hP hD hX CB hI hN hR hTy U0 (x:=x) (ht.le l4) gi.ok gi.gen (by omega) (by omega) (by omega) fun e t w' a' G5 m5 i5=> ?_)
      simp -implicitDefEqProofs [t0,t5,t10,t12,hw]
      have hn1:=hle.next
      have hn4:=l4.next
      refine⟨l.length-(i+1),by omega,i+1,by omega,rfl,by simp,⟨Nat.le_trans (Nat.le_trans hle.next l4.next) m5.next,fun b' hb'=> ?_⟩,w',fun b' hb'=>m5.lab b' (by omega) (hw0 b' hb'),a',by rw[CK hx];exact i5⟩
      rw[m5.get b' (by omega) (hw0 b' hb'),l4.get b' (by omega),hle.get b' hb']
     ·rw[if_neg h0]
      have hdo:sJ (l.take (i+1))=sJ (l.take i):=by rw[CK hx];unfold doT;rw[if_pos h0]
      simp -implicitDefEqProofs [h0,t0,t5,t10,t12,hw]
      exact⟨l.length-(i+1),by omega,i+1,by omega,rfl,by simp,hle.trans l2,w,hw0,a,by rw[hdo];exact ht.le l2⟩
    ·have fO: ¬ (i:Int)<(l.length:Int):=by omega
     have gl:=hG l.length (Nat.le_refl _)
     rw[List.take_of_length_le (by omega)]at ht gi
     simp -implicitDefEqProofs [t0,t5,t10,t12,hil,fO]
     refine ai (uI c hc hC hD hTy ht gi.ok gi.gen.lo gi.gen.hi gi.gen.each fun G2 l2=> ?_)
     simp -implicitDefEqProofs [t5]
     refine ai (uI c hc hC hD hTy (iA.le (hle.trans l2)) gi.ok gi.gen.lo gi.gen.hi gi.gen.each fun G3 l3=> ?_)
     simp -implicitDefEqProofs [ak,jI]
     refine ai (hA _ _ fun H'=> ?_)
     simp -implicitDefEqProofs []
     exact hK _
  ·have hl:l=[]:=List.length_eq_zero_iff.1 (by omega)
   subst hl
   obtain⟨v',q1,q2⟩:=(hu.le k1).cut (i:=0) (j:=0) (by omega) (by omega) (by simp)
   rw[Nat.sub_zero,List.drop_zero]at q2
   simp only[List.map_nil,List.length_nil]at q1
   simp only[List.map_nil,List.take_nil]at q2
   simp -implicitDefEqProofs [gK,bH,q1]
   refine ai (GN c hc hE hC hP hD hX CB hI hN hR hTy U0 (l:=[]) q2.1 hf hG fun pB vB wB aB H2 k2 zB iB=> ?_)
   have gk:=hG 0 (Nat.le_refl _)
   simp -implicitDefEqProofs []
   refine ai (uI c hc hC hD hTy iB gk.ok gk.gen.lo gk.gen.hi gk.gen.each fun H3 k3=> ?_)
   simp -implicitDefEqProofs []
   refine ai (OY c hc hC hD CB hI hKI hTy gk.right gk.gen.lo gk.gen.hi gk.len fun p w a H4 k4 z4 i4=> ?_)
   have k14:=k2.trans (k3.trans k4)
   simp -implicitDefEqProofs []
   refine cz c.mono (fun m E G=>m=0∧E 0 = .slice a0 0 cap∧E 5 = .pointer (some ⟨pA,0,none⟩)∧E 10 = .pointer (some ⟨p,0,none⟩)∧E 12 = .int .i64 0∧G=H4) 0 ?_ ?_
   ·refine⟨rfl,?_⟩
    simp -implicitDefEqProofs []
   ·rintro m E G ⟨rfl,t0,t5,t10,t12,rfl⟩
    simp -implicitDefEqProofs [t0,t5,t10,t12]
    refine ai (uI c hc hC hD hTy i4 gk.ok gk.gen.lo gk.gen.hi gk.gen.each fun G2 l2=> ?_)
    simp -implicitDefEqProofs [t5]
    refine ai (uI c hc hC hD hTy (iA.le (k14.trans l2)) gk.ok gk.gen.lo gk.gen.hi gk.gen.each fun G3 l3=> ?_)
    simp -implicitDefEqProofs [ak,jI]
    refine ai (hA _ _ fun H'=> ?_)
    simp -implicitDefEqProofs []
    exact hK _
end
end
end
theorem CL {α:Type}(l:List α):l=[]∨∃l' b,l=l'++[b]:=by
 cases h:l.getLast? with
 |none=>exact .inl (by simpa using h)
 |some b=>
  obtain⟨l',rfl⟩:=List.getLast?_eq_some_iff.1 h
  exact .inr ⟨l',b,rfl⟩
theorem Te {L:List aP}{s:List UInt8}{ino:Int}(h1:1≤ino)(h2:ino<256)(hn:lm s=true)(ht:(bF L s).2≠0):(jc L s ino).1=L.take (dW s L)++⟨s,ino⟩::L.drop (dW s L):=by
 have ht': ¬ iE L s=true:=fun e=>ht (by unfold bF;rw[if_pos e])
 unfold jc
 rw[if_neg (by omega),if_neg (by rw[hn];simp),if_neg ht']
theorem VQ {L:List aP}{s:List UInt8}{ino:Int}(h1:1≤ino)(h2:ino<256)(hn:lm s=true)(ht:(bF L s).2≠0)(e:aP):e ∈ (jc L s ino).1↔e=⟨s,ino⟩∨e ∈ L:=by
 rw[Te h1 h2 hn ht]
 have hm:e ∈ L↔e ∈ L.take (dW s L)∨e ∈ L.drop (dW s L):=by rw[←List.mem_append,List.take_append_drop]
 rw[List.mem_append,List.mem_cons,hm]
 constructor
 ·rintro(h|h|h)
  ·exact .inr (.inl h)
  ·exact .inl h
  ·exact .inr (.inr h)
 ·rintro(h|h|h)
  ·exact .inr (.inl h)
  ·exact .inl h
  ·exact .inr (.inr h)
theorem qbB {L:List aP}{s:List UInt8}{ino:Int}(h1:1≤ino)(h2:ino<256)(hn:lm s=true)(ht:(bF L s).2≠0)(k:Nat):cE (jc L s ino).1 k=cE L k+if ino=(k:Int)then 1 else 0:=by
 rw[Te h1 h2 hn ht]
 have hc:cE L k=(L.take (dW s L)).countP (fun e=>decide (e.ino=(k:Int)))+(L.drop (dW s L)).countP fun e=>decide (e.ino=(k:Int)):=by
  rw[←List.countP_append,List.take_append_drop];rfl
 rw[hc]
 unfold cE
 rw[List.countP_append,List.countP_cons]
 by_cases h:ino=(k:Int) <;> simp[h] <;> omega
theorem MW {L:List aP}{s:List UInt8}(h:(bF L s).2=0):iE L s=true:=by
 unfold bF at h
 split at h
 ·assumption
 ·cases h
theorem mq {L:List aP}{s:List UInt8}(h:(bF L s).2=0):(⟨s,(bF L s).1⟩:aP) ∈ L∧L[dW s L]? =some ⟨s,(bF L s).1⟩:=by
 have ht:=MW h
 obtain⟨ino,hi⟩:=xS ht
 have:(bF L s).1=ino:=by unfold bF;rw[if_pos ht];simp only[NI,hi]
 rw[this]
 exact⟨List.mem_of_getElem? hi,hi⟩
theorem yg {L:List aP}{s:List UInt8}{k:Int}(hs:dz L)(h:(⟨s,k⟩:aP) ∈ L):bF L s=(k,0):=by
 obtain⟨i,hi⟩:=List.getElem?_of_mem h
 exact MN hs hi
theorem VT {L:List aP}{s:List UInt8}{j k:Int}(hs:dz L)(h:(⟨s,j⟩:aP) ∈ L)(h':(⟨s,k⟩:aP) ∈ L):j=k:=by
 have e:=yg hs h
 rw[yg hs h']at e
 injection e with e _
 exact e.symm
theorem EX {L:List aP}{s:List UInt8}(hs:dz L)(h:(bF L s).2=0)(e:aP):e ∈ (jb L s).1↔e ∈ L∧e.nm≠s:=by
 have ht:=MW h
 obtain⟨hm,hi⟩:=mq h
 unfold jb
 rw[if_pos ht]
 simp only[]
 rw[List.mem_eraseIdx_iff_getElem?]
 constructor
 ·rintro⟨i,hne,he⟩
  refine⟨List.mem_of_getElem? he,fun hn=>hne ?_⟩
  obtain⟨l1,e1⟩:=List.getElem?_eq_some_iff.1 he
  obtain⟨l2,e2⟩:=List.getElem?_eq_some_iff.1 hi
  rcases Nat.lt_trichotomy i (dW s L)with hlt|heq|hgt
  ·have:=List.pairwise_iff_getElem.1 hs i (dW s L) l1 l2 hlt
   rw[e1,e2,hn,oK]at this;cases this
  ·exact heq
  ·have:=List.pairwise_iff_getElem.1 hs (dW s L) i l2 l1 hgt
   rw[e1,e2,hn,oK]at this;cases this
 ·rintro⟨he,hn⟩
  obtain⟨i,hi2⟩:=List.getElem?_of_mem he
  refine⟨i,fun e=>hn ?_,hi2⟩
  subst e
  rw[hi]at hi2
  injection hi2 with hi2
  rw[←hi2]
theorem qbC {L:List aP}{s:List UInt8}(h:(bF L s).2=0)(k:Nat):cE (jb L s).1 k+(if (bF L s).1=(k:Int)then 1 else 0)=cE L k:=by
 have ht:=MW h
 obtain⟨hm,hi⟩:=mq h
 obtain⟨l1,e1⟩:=List.getElem?_eq_some_iff.1 hi
 unfold jb
 rw[if_pos ht]
 simp only[]
 rw[List.eraseIdx_eq_take_drop_succ]
 have hc:cE L k=(L.take (dW s L)).countP (fun e=>decide (e.ino=(k:Int)))+(L.drop (dW s L)).countP fun e=>decide (e.ino=(k:Int)):=by
  rw[←List.countP_append,List.take_append_drop];rfl
 rw[hc,List.drop_eq_getElem_cons l1,e1,List.countP_cons]
 unfold cE
 rw[List.countP_append]
 by_cases hk:(bF L s).1=(k:Int) <;> simp[hk] <;> omega
def EY (f:Nat→Nat)(N:Nat):Nat:=((List.range N).map f).sum
theorem uK (f:Nat→Nat)(N:Nat):EY f (N+1)=EY f N+f N:=by
 unfold EY;rw[List.range_succ,List.map_append,List.sum_append];simp
theorem rG {f g:Nat→Nat}{m:Nat}(h: ∀n,n≠m→f n=g n): ∀N,(m<N→EY f N+g m=EY g N+f m)∧(N≤m→EY f N=EY g N)
 |0=>⟨fun h=>by omega,fun _=>rfl⟩
 |N+1=>by
  obtain⟨a,b⟩:=rG h N
  rw[uK,uK]
  by_cases hm:m=N
  ·subst hm
   have:=b (Nat.le_refl _)
   exact⟨fun _=>by omega,fun h=>by omega⟩
  ·have hN:=h N (fun e=>hm e.symm)
   exact⟨fun hlt=>by have:=a (by omega);omega,fun hle=>by have:=b (by omega);omega⟩
theorem OZ {f g:Nat→Nat}(h: ∀n,f n=g n)(N:Nat):EY f N=EY g N:=by rw[funext h]
theorem uL {f:Nat→Nat}{m:Nat}: ∀N,m<N→f m≤EY f N
 |0,h=>by omega
 |N+1,h=>by
  rw[uK]
  by_cases hm:m=N
  ·subst hm;omega
  ·have:=uL (f:=f) (m:=m) N (by omega);omega
theorem Tf {f:Nat→Nat}{m m':Nat}(hne:m≠m'): ∀N,m<N→m'<N→f m+f m'≤EY f N
 |0,h,_=>by omega
 |N+1,h,h'=>by
  rw[uK]
  by_cases hm:m=N
  ·subst hm;have:=uL (f:=f) (m:=m') m (by omega);omega
  ·by_cases hm':m'=N
   ·subst hm';have:=uL (f:=f) (m:=m) m' (by omega);omega
   ·have:=Tf (f:=f) hne N (by omega) (by omega);omega
theorem MX {α:Type}{p:α→Bool}{a b:α}(hne:a≠b)(ha:p a=true)(hb:p b=true): ∀l:List α,a ∈ l→b ∈ l→2≤l.countP p
 |[],h,_=>by cases h
 |x::l,h,h'=>by
  rw[List.countP_cons]
  rcases List.mem_cons.1 h with rfl|h1
  ·rcases List.mem_cons.1 h' with rfl|h2
   ·exact absurd rfl hne
   ·have:=List.countP_pos_iff.2 ⟨b,h2,hb⟩;rw[if_pos ha];omega
  ·rcases List.mem_cons.1 h' with rfl|h2
   ·have:=List.countP_pos_iff.2 ⟨a,h1,ha⟩;rw[if_pos hb];omega
   ·have:=MX hne ha hb l h1 h2;omega
def GQ (T:aQ)(m:Nat)(s:List UInt8)(k:Nat):Prop:=∃L,aS T m=some L∧(⟨s,(k:Int)⟩:aP) ∈ L
def Walk (T:aQ):Nat→List (List UInt8)→Nat→Prop
 |n,[],k=>n=k
 |n,s::P,k=> ∃j,GQ T n s j∧Walk T j P k
theorem jg {T:aQ}{Q:List (List UInt8)}{k:Nat}: ∀(P:List (List UInt8)) (n:Nat),Walk T n (P++Q) k↔∃j,Walk T n P j∧Walk T j Q k
 |[],n=>⟨fun h=>⟨n,rfl,h⟩,fun⟨j,h1,h2⟩=>by cases h1;exact h2⟩
 |s::P,n=>by
  constructor
  ·rintro⟨i,e,w⟩
   obtain⟨j,w1,w2⟩:=(jg P i).1 w
   exact⟨j,⟨i,e,w1⟩,w2⟩
  ·rintro⟨j,⟨i,e,w1⟩,w2⟩
   exact⟨i,e,(jg P i).2 ⟨j,w1,w2⟩⟩
theorem y9 {T:aQ}{P:List (List UInt8)}{s:List UInt8}{n k:Nat}:Walk T n (P++[s]) k↔∃j,Walk T n P j∧GQ T j s k:=by
 rw[jg]
 constructor
 ·rintro⟨j,w,i,e,rfl⟩;exact⟨j,w,e⟩
 ·rintro⟨j,w,e⟩;exact⟨j,w,k,e,rfl⟩
theorem QI {T:aQ}(hT: ∀n L,aS T n=some L→∀e ∈ L,NJ e): ∀(P:List (List UInt8)) (n:Nat),(eO T P n).2=0→Walk T n P (eO T P n).1
 |[],n,_=>rfl
 |s::P,n,h=>by
  simp only[eO]at h ⊢
  cases hd:aS T n with
  |none=>rw[hd]at h;cases h
  |some L=>
   rw[hd]at h
   simp only[]at h ⊢
   by_cases h0:(bF L s).2=0
   ·rw[if_pos h0]at h ⊢
    obtain⟨hm,_⟩:=mq h0
    have ho:=hT n L hd _ hm
    refine⟨(bF L s).1.toNat,⟨L,hd,?_⟩,QI hT P _ h⟩
    have:(((bF L s).1.toNat:Nat):Int)=(bF L s).1:=by have:=ho.2.1;simp only[]at this;omega
    rw[this];exact hm
   ·rw[if_neg h0]at h;exact absurd h h0
theorem qI {T T':aQ}(h: ∀a s b,GQ T a s b→GQ T' a s b): ∀(P:List (List UInt8)) (a k:Nat),Walk T a P k→Walk T' a P k
 |[],_,_,w=>w
 |_::P,_,k,⟨j,e,w⟩=>⟨j,h _ _ _ e,qI h P j k w⟩
theorem yh {T T':aQ}{m n:Nat}{x:List UInt8}(h: ∀a s b,GQ T a s b→(a=m∧s=x∧b=n)∨GQ T' a s b): ∀(P:List (List UInt8)) (a k:Nat),Walk T a P k→Walk T' a P k∨∃P1 P2,P=P1++x::P2∧Walk T a P1 m∧Walk T n P2 k
 |[],_,_,w=>.inl w
 |s::P,a,k,⟨j,e,w⟩=>by
  rcases h a s j e with⟨rfl,rfl,rfl⟩|e'
  ·exact .inr ⟨[],P,rfl,rfl,w⟩
  ·rcases yh h P j k w with w'|⟨P1,P2,rfl,w1,w2⟩
   ·exact .inl ⟨j,e',w'⟩
   ·exact .inr ⟨s::P1,P2,rfl,⟨j,e,w1⟩,w2⟩
structure eP (m:Nat)(T:aQ):Prop where
 far: ∀n x,T.l n=some x→1≤n∧n<256
 dir: ∀n L,aS T n=some L→dz L∧(∀e ∈ L,NJ e)∧L.length≤m
 here: ∀n L,aS T n=some L→∀e ∈ L,∃x,T.l e.ino.toNat=some x
 yf:OU T
 gen:0≤T.gen∧T.gen≤m
 root: ∃L,aS T 1=some L
 top:bG T 256 1=0
 tot:T.total=jZ T 256∧T.total≤65536
 file: ∀n s k,dS T n=some (s,k)→s.length≤16384∧k=bG T 256 n∧1≤k∧k≤100
 one: ∀n L,aS T n=some L→n≠1→bG T 256 n=1
 rch: ∀n L,aS T n=some L→∃P,Walk T 1 P n
theorem eP.lt {m:Nat}{T:aQ}(h:eP m T){n:Nat}{L:List aP}(hd:aS T n=some L):n<256:=by
 obtain⟨g,hg⟩:=jq hd
 exact(h.far n _ hg).2
theorem eP.ok {m:Nat}{T:aQ}(h:eP m T)(hm:m≤1000):T.ok:=
 ⟨fun n L hd=>⟨by have:=(h.dir n L hd).2.2;omega,(h.dir n L hd).2.1⟩,fun n s k hf=>by obtain⟨a,_,b⟩:=h.file n s k hf;exact⟨a,b⟩,by have:=h.tot;omega,h.root,h.here⟩
theorem iQ (T:aQ)(i k:Nat):bG T i k=EY (fun n=>cE (dE T n) k) i:=rfl
theorem pO (T:aQ)(i:Nat):jZ T i=EY (vS T) i:=rfl
theorem QJ {T:aQ}{m k:Nat}{s:List UInt8}(h:GQ T m s k):1≤cE (dE T m) k:=by
 obtain⟨L,hd,he⟩:=h
 unfold dE cE
 rw[hd]
 exact List.countP_pos_iff.2 ⟨_,he,by simp⟩
theorem eP.qh3 {m:Nat}{T:aQ}(h:eP m T){a:Nat}{s:List UInt8}: ¬ GQ T a s 1:=fun e=>by
 have h1:=QJ e
 obtain⟨L,hd,_⟩:=e
 have h2:=uL (f:=fun n=>cE (dE T n) 1) (m:=a) 256 (h.lt hd)
 rw[←iQ,h.top]at h2
 omega
theorem eP.uni {m:Nat}{T:aQ}(h:eP m T){a b k:Nat}{s t:List UInt8}(e1:GQ T a s k)(e2:GQ T b t k)(hk:bG T 256 k=1):a=b∧s=t:=by
 have p1:=QJ e1
 have p2:=QJ e2
 obtain⟨L,hd,he⟩:=e1
 obtain⟨M,hd2,he2⟩:=e2
 by_cases hab:a=b
 ·subst hab
  refine⟨rfl,Classical.byContradiction fun hst=> ?_⟩
  rw[hd]at hd2
  injection hd2 with hd2
  subst hd2
  have h2:2≤cE (dE T a) k:=by
   unfold dE cE
   rw[hd]
   exact MX (fun e=>hst (by injection e)) (by simp) (by simp) _ he he2
  have h3:=uL (f:=fun n=>cE (dE T n) k) (m:=a) 256 (h.lt hd)
  rw[←iQ,hk]at h3
  omega
 ·have h3:=Tf (f:=fun n=>cE (dE T n) k) hab 256 (h.lt hd) (h.lt hd2)
  rw[←iQ,hk]at h3
  omega
theorem eP.path {m:Nat}{T:aQ}(h:eP m T): ∀(N:Nat) (P Q:List (List UInt8)) (k:Nat) (L:List aP),P.length=N→aS T k=some L→Walk T 1 P k→Walk T 1 Q k→P=Q:=by
 intro N
 induction N with
 |zero=>
  intro P Q k L hP hd w1 w2
  have hP:P=[]:=List.length_eq_zero_iff.1 hP
  subst hP
  cases w1
  rcases CL Q with rfl|⟨Q1,s,rfl⟩
  ·rfl
  ·obtain⟨j,_,e⟩:=y9.1 w2
   exact absurd e h.qh3
 |succ N ih=>
  intro P Q k L hP hd w1 w2
  rcases CL P with rfl|⟨P1,s,rfl⟩
  ·simp at hP
  ·obtain⟨j,v1,e1⟩:=y9.1 w1
   have hk1:k≠1:=fun e=>h.qh3 (e▸e1)
   rcases CL Q with rfl|⟨Q1,t,rfl⟩
   ·cases w2;exact absurd rfl hk1
   ·obtain⟨i,v2,e2⟩:=y9.1 w2
    obtain⟨rfl,rfl⟩:=h.uni e1 e2 (h.one k L hd hk1)
    obtain⟨M,hM,_⟩:=e1
    rw[ih P1 Q1 j M (by simpa using hP) hM v1 v2]
open Classical in
noncomputable def EZ (N:Nat)(p:Nat→Prop):Nat:=((List.range N).filter fun d=>decide (p d)).length
open Classical in
theorem oU (N:Nat)(p:Nat→Prop):EZ (N+1) p=EZ N p+if p N then 1 else 0:=by
 unfold EZ
 rw[List.range_succ,List.filter_append,List.length_append]
 by_cases h:p N <;> simp[h]
theorem CO {p q:Nat→Prop}(h: ∀d,p d↔q d)(N:Nat):EZ N p=EZ N q:=by rw[funext fun d=>propext (h d)]
theorem GR {p:Nat→Prop}(h: ∀d,¬ p d): ∀N,EZ N p=0
 |0=>rfl
 |N+1=>by rw[oU,GR h N,if_neg (h N)]
theorem VU (p:Nat→Prop): ∀N,EZ N p≤N
 |0=>Nat.le_refl _
 |N+1=>by have:=VU p N;rw[oU];split <;> omega
theorem QK {p q:Nat→Prop}(h: ∀d,¬ (p d∧q d)): ∀N,EZ N (fun d=>p d∨q d)=EZ N p+EZ N q
 |0=>rfl
 |N+1=>by
  have ih:=QK h N
  rw[oU,oU,oU,ih]
  by_cases hp:p N
  ·have hq: ¬ q N:=fun hq=>h N ⟨hp,hq⟩
   rw[if_pos (.inl hp),if_pos hp,if_neg hq];omega
  ·by_cases hq:q N
   ·rw[if_pos (.inr hq),if_neg hp,if_pos hq];omega
   ·rw[if_neg (fun e=>e.elim hp hq),if_neg hp,if_neg hq];omega
theorem VV {n:Nat}: ∀N,EZ N (fun d=>d=n)=if n<N then 1 else 0
 |0=>rfl
 |N+1=>by
  rw[oU,VV N]
  by_cases h1:n<N
  ·rw[if_pos h1,if_neg (by omega),if_pos (by omega)]
  ·by_cases h2:N=n
   ·rw[if_neg h1,if_pos h2,if_pos (by omega)]
   ·rw[if_neg h1,if_neg h2,if_neg (by omega)]
def FW (T:aQ)(n d:Nat):Prop:=(∃M,aS T d=some M)∧∃P,Walk T n P d
noncomputable def Rn (T:aQ)(n:Nat):Nat:=EZ 256 (FW T n)
theorem Tg (T:aQ): ∀N,GL T N=EZ N fun n=> ∃M,aS T n=some M
 |0=>rfl
 |N+1=>by
  rw[OV,oU,Tg T N]
  cases hd:aS T N with
  |none=>rw[if_neg (by simp),if_neg (by simp)]
  |some M=>rw[if_pos (by simp),if_pos ⟨M,rfl⟩]
theorem qcY {T:aQ}{n:Nat}(h:aS T n=none)(d:Nat): ¬ FW T n d:=by
 rintro⟨⟨M,hM⟩,P,w⟩
 cases P with
 |nil=>cases w;rw[h]at hM;cases hM
 |cons s P=>obtain⟨j,⟨L,hL,_⟩,_⟩:=w;rw[h]at hL;cases hL
theorem eP.sum {m:Nat}{T:aQ}(h:eP m T){n:Nat}{L:List aP}(hd:aS T n=some L): ∀M:List aP,(∀e ∈ M,e ∈ L)→dz M→EZ 256 (fun d=> ∃e ∈ M,FW T e.ino.toNat d)=SV T (Rn T) M
 |[],_,_=>GR (fun d h=>by obtain⟨e,he,_⟩:=h;cases he) 256
 |e::M,hM,hs=>by
  have hs':=List.pairwise_cons.1 hs
  have ih:=h.sum hd M (fun x hx=>hM x (by simp[hx])) hs'.2
  have hR:SV T (Rn T) (e::M)=(if (aS T e.ino.toNat).isSome then Rn T e.ino.toNat else 0)+SV T (Rn T) M:=by unfold SV;simp
  rw[hR,←ih]
  have hsp: ∀d,(∃x ∈ e::M,FW T x.ino.toNat d)↔(FW T e.ino.toNat d∨∃x ∈ M,FW T x.ino.toNat d):=fun d=>by
   constructor
   ·rintro⟨x,hx,w⟩
    rcases List.mem_cons.1 hx with rfl|hx
    ·exact .inl w
    ·exact .inr ⟨x,hx,w⟩
   ·rintro(w|⟨x,hx,w⟩)
    ·exact⟨e,by simp,w⟩
    ·exact⟨x,by simp[hx],w⟩
  have key: ∀x ∈ L,GQ T n x.nm x.ino.toNat:=fun x hx=>by
   have ho:=(h.dir n L hd).2.1 x hx
   refine⟨L,hd,?_⟩
   have:((x.ino.toNat:Nat):Int)=x.ino:=by have:=ho.2.1;omega
   rw[this];exact hx
  rw[CO hsp,QK]
  ·congr 1
   cases hde:aS T e.ino.toNat with
   |none=>rw[if_neg (by simp)];exact GR (fun d=>qcY hde d) 256
   |some N=>rw[if_pos (by simp)];rfl
  ·rintro d ⟨⟨⟨D,hD⟩,P,w⟩,x,hx,_,Q,v⟩
   obtain⟨Pn,wn⟩:=h.rch n L hd
   have e1:Walk T 1 (Pn++e.nm::P) d:=(jg _ _).2 ⟨n,wn,_,key e (hM e (by simp)),w⟩
   have e2:Walk T 1 (Pn++x.nm::Q) d:=(jg _ _).2 ⟨n,wn,_,key x (hM x (by simp[hx])),v⟩
   have:=h.path _ _ _ d D rfl hD e1 e2
   have h3:=List.append_cancel_left this
   injection h3 with h3 _
   have h4:=hs'.1 x hx
   rw[h3,oK]at h4;cases h4
theorem eP.qh4 {m:Nat}{T:aQ}(h:eP m T):qbm T (fun n=> ∃L,aS T n=some L) (Rn T):=by
 refine⟨fun n L _ hd=> ?_,fun n L e _ hd he hs=>Option.isSome_iff_exists.1 hs,fun n=>VU _ _⟩
 have key: ∀d,FW T n d↔(d=n∨∃e ∈ L,FW T e.ino.toNat d):=fun d=>by
  constructor
  ·rintro⟨hM,P,w⟩
   cases P with
   |nil=>exact .inl w.symm
   |cons s P=>
    obtain⟨j,⟨L',hL',he⟩,w⟩:=w
    rw[hd]at hL'
    injection hL' with hL'
    subst hL'
    exact .inr ⟨_,he,hM,P,by simpa using w⟩
  ·rintro(rfl|⟨e,he,hM,P,w⟩)
   ·exact⟨⟨L,hd⟩,[],rfl⟩
   ·have ho:=(h.dir n L hd).2.1 e he
    have:((e.ino.toNat:Nat):Int)=e.ino:=by have:=ho.2.1;omega
    exact⟨hM,e.nm::P,e.ino.toNat,⟨L,hd,by rw[this];exact he⟩,w⟩
 unfold Rn
 rw[CO key,QK,VV,if_pos (h.lt hd)]
 ·congr 1
  exact h.sum hd L (fun _ he=>he) (h.dir n L hd).1
 ·rintro d ⟨rfl,e,he,_,P,w⟩
  obtain⟨Pn,wn⟩:=h.rch d L hd
  have ho:=(h.dir d L hd).2.1 e he
  have:((e.ino.toNat:Nat):Int)=e.ino:=by have:=ho.2.1;omega
  have e1:Walk T 1 (Pn++e.nm::P) d:=(jg _ _).2 ⟨d,wn,_,⟨L,hd,by rw[this];exact he⟩,w⟩
  have:=h.path _ _ _ d L rfl hd wn e1
  have h3:=congrArg List.length this
  simp at h3
theorem Ti {m:Nat}{T:aQ}(h:eP m T)(hm:m≤60): ∀i,i≤256→(jY T i).length≤i*2921+jZ T i
 |0,_=>by simp[jY]
 |i+1,hi=>by
  have ih:=Ti h hm i (by omega)
  rw[CF,qH,List.length_append]
  have:(GK T i).length≤2921+vS T i:=by
   unfold GK vS
   cases hx:T.l i with
   |none=>simp
   |some x=>
    obtain⟨g,d⟩:=x
    have hg:=h.yf.lim i _ hx
    have hg2:=h.gen
    simp only[]at hg
    cases d with
    |file s k=>
     have:=(h.file i s k (by simp[dS,hx])).1
     have h3:=xY (n:=i) (g:=g) (d:=.file s k) (by omega) (by omega) (by omega) (by simp only[eB];omega)
     simp only[eB,szN]at h3 ⊢
     omega
    |dir L=>
     obtain⟨_,ho,hL⟩:=h.dir i L (by simp[aS,hx])
     have l1:=GD ho
     have l2:=bN (n:=(L.length:Int)) (by omega) (by omega)
     have l3:(eB (.dir L)).length≤2890:=by simp only[eB,wh,List.length_append];omega
     have h3:=xY (n:=i) (g:=g) (d:=.dir L) (by omega) (by omega) (by omega) (by omega)
     simp only[szN]
     omega
  omega
theorem eP.good {m:Nat}{T:aQ}(h:eP m T)(hm:m≤60):Tc T:=by
 refine⟨h.ok (by omega),⟨h.gen.1,by have:=h.gen;omega,fun n x hx=> ?_⟩,?_,?_⟩
 ·have:=h.yf.lim n x hx;have:=h.gen;omega
 ·refine⟨⟨fun n L hd=>⟨(h.dir n L hd).1,(h.dir n L hd).2.1,by have:=(h.dir n L hd).2.2;omega⟩,h.here⟩,h.yf,h.far,h.root,h.top,h.tot,h.file,h.one,_,_,h.qh4,h.root,?_⟩
  rw[Tg]
  refine CO (fun d=> ?_) 256
  constructor
  ·rintro⟨hM,_⟩;exact hM
  ·rintro⟨M,hM⟩;exact⟨⟨M,hM⟩,h.rch d M hM⟩
 ·have h1:=Ti h hm 256 (Nat.le_refl _)
  have h2:=h.tot
  have l1:=bN (n:=T.gen) (by have:=h.gen;omega) (by have:=h.gen;omega)
  have l2:=bN (n:=(fC T 256:Int)) (by omega) (by have:=EU T 256;omega)
  unfold Ah nJ
  simp only[List.length_append]
  omega
def U6:Option (Int×oN)→Option (List aP)
 |some (_,.dir L)=>some L
 |_=>none
def MZ:Option (Int×oN)→Option (List UInt8×Int)
 |some (_,.file s k)=>some (s,k)
 |_=>none
theorem jv (T:aQ)(n:Nat):aS T n=U6 (T.l n):=by unfold aS U6;rfl
theorem nD (T:aQ)(n:Nat):dS T n=MZ (T.l n):=by unfold dS MZ;rfl
theorem VW {L:List aP}{s:List UInt8}(hs:dz L):(bF L s).2≠0↔∀k,(⟨s,k⟩:aP) ∉ L:=by
 constructor
 ·intro h k hk
  rw[yg hs hk]at h
  exact h rfl
 ·intro h h0
  exact h _ (mq h0).1
theorem eP.fresh {m:Nat}{T:aQ}(h:eP m T){n:Nat}(hn:T.l n=none):bG T 256 n=0:=by
 have key: ∀N,EY (fun q=>cE (dE T q) n) N=0:=by
  intro N
  induction N with
  |zero=>rfl
  |succ N ih=>
   rw[uK,ih]
   have:cE (dE T N) n=0:=by
    unfold cE
    rw[List.countP_eq_zero]
    intro e he hd
    unfold dE at he
    cases hL:aS T N with
    |none=>rw[hL]at he;cases he
    |some L=>
     rw[hL]at he
     obtain⟨x,hx⟩:=h.here N L hL e he
     have hd:=of_decide_eq_true hd
     rw[hd,Int.toNat_natCast,hn]at hx
     cases hx
   omega
 exact key 256
structure rH (T T':aQ)(m n:Nat)(x:List UInt8)(M:List aP)(g:Int)(y:Int×oN):Prop where
 l: ∀q,T'.l q=if q=m then some (g,.dir (jc M x n).1)else if q=n then some y else T.l q
 am:T.l m=some (g,.dir M)
 ne:m≠n
 dn:aS T n=none
 dn':U6 (some y)=none∨U6 (some y)=some []
 n1:2≤n
 n2:n<256
 nm:lm x=true
 no:(bF M x).2≠0
theorem rH.dirs {T T':aQ}{m n:Nat}{x:List UInt8}{M:List aP}{g:Int}{y:Int×oN}(h:rH T T' m n x M g y)(q:Nat):aS T' q=if q=m then some (jc M x n).1 else if q=n then U6 (some y)else aS T q:=by
 rw[jv,jv,h.l]
 by_cases h1:q=m
 ·rw[if_pos h1,if_pos h1];rfl
 ·rw[if_neg h1,if_neg h1]
  by_cases h2:q=n
  ·rw[if_pos h2,if_pos h2]
  ·rw[if_neg h2,if_neg h2]
theorem rH.dm {T T':aQ}{m n:Nat}{x:List UInt8}{M:List aP}{g:Int}{y:Int×oN}(h:rH T T' m n x M g y):aS T m=some M:=by rw[jv,h.am];rfl
theorem rH.mem {T T':aQ}{m n:Nat}{x:List UInt8}{M:List aP}{g:Int}{y:Int×oN}(h:rH T T' m n x M g y)(e:aP):e ∈ (jc M x n).1↔e=⟨x,(n:Int)⟩∨e ∈ M:=
 VQ (by have:=h.n1;omega) (by have:=h.n2;omega) h.nm h.no e
theorem rH.GQ {T T':aQ}{m n:Nat}{x:List UInt8}{M:List aP}{g:Int}{y:Int×oN}(h:rH T T' m n x M g y){a b:Nat}{s:List UInt8}(e:GQ T a s b):GQ T' a s b:=by
 obtain⟨L,hd,he⟩:=e
 by_cases ha:a=m
 ·subst ha
  rw[h.dm]at hd
  injection hd with hd
  subst hd
  exact⟨_,by rw[h.dirs,if_pos rfl],(h.mem _).2 (.inr he)⟩
 ·by_cases hn:a=n
  ·subst hn;rw[h.dn]at hd;cases hd
  ·exact⟨L,by rw[h.dirs,if_neg ha,if_neg hn];exact hd,he⟩
theorem rH.new {T T':aQ}{m n:Nat}{x:List UInt8}{M:List aP}{g:Int}{y:Int×oN}(h:rH T T' m n x M g y):Go.Proofs.YtofpmkhcbijilaaGreatDoorI.GQ T' m x n:=⟨_,by rw[h.dirs,if_pos rfl],(h.mem _).2 (.inl rfl)⟩
theorem rH.names {T T':aQ}{m n:Nat}{x:List UInt8}{M:List aP}{g:Int}{y:Int×oN}(h:rH T T' m n x M g y)(hm:m<256)(j:Nat):bG T' 256 j=bG T 256 j+if n=j then 1 else 0:=by
 have hq: ∀q,q≠m→cE (dE T' q) j=cE (dE T q) j:=fun q hq=>by
  unfold dE
  rw[h.dirs,if_neg hq]
  by_cases hn:q=n
  ·subst hn
   rw[if_pos rfl,h.dn]
   rcases h.dn' with e|e <;> rw[e] <;> rfl
  ·rw[if_neg hn]
 have h1:=(rG hq 256).1 hm
 rw[←iQ,←iQ]at h1
 have h2:cE (dE T' m) j=cE (dE T m) j+if n=j then 1 else 0:=by
  unfold dE
  rw[h.dirs,if_pos rfl,h.dm]
  simp only[Option.getD_some]
  rw[qbB (by have:=h.n1;omega) (by have:=h.n2;omega) h.nm h.no]
  by_cases hj:n=j
  ·subst hj;rw[if_pos rfl,if_pos rfl]
  ·rw[if_neg hj,if_neg (by omega)]
 omega
theorem rH.keep {T T':aQ}{m n:Nat}{x:List UInt8}{M:List aP}{g:Int}{y:Int×oN}(h:rH T T' m n x M g y){q:Nat}{z:Int×oN}(hz:T.l q=some z): ∃z',T'.l q=some z':=by
 rw[h.l]
 by_cases h1:q=m
 ·rw[if_pos h1];exact⟨_,rfl⟩
 ·rw[if_neg h1]
  by_cases h2:q=n
  ·rw[if_pos h2];exact⟨_,rfl⟩
  ·rw[if_neg h2];exact⟨_,hz⟩
theorem eP.grow {k:Nat}{T T':aQ}{m n:Nat}{x:List UInt8}{M:List aP}{g:Int}{y:Int×oN}(h:eP k T)(G:rH T T' m n x M g y)(QL:T.gen≤T'.gen∧T'.gen≤T.gen+1)(htot:T'.total=T.total)(hsz:szN y.2=vS T n)
 (hg1:(T.l n=none∧y.1=T.gen+1∧T'.gen=T.gen+1)∨∃z,T.l n=some z∧z.1=y.1)
 (qbD: ∀s j,MZ (some y)=some (s,j)→s.length≤16384∧j=bG T 256 n+1∧1≤j∧j≤100) (qcZ: ∀L,U6 (some y)=some L→bG T 256 n=0):eP (k+1) T':=by
 have hm:=(h.far m _ G.am).2
 have hM:=h.dir m M G.dm
 have hnm:=G.names hm
 have hgs: ∀q z,T'.l q=some z→(q=n∧T.l n=none∧z.1=T.gen+1∧T'.gen=T.gen+1)∨∃z',T.l q=some z'∧z'.1=z.1:=fun q z hz=>by
  rw[G.l]at hz
  by_cases h1:q=m
  ·subst h1
   rw[if_pos rfl]at hz
   injection hz with hz
   subst hz
   exact .inr ⟨_,G.am,rfl⟩
  ·rw[if_neg h1]at hz
   by_cases h2:q=n
   ·subst h2
    rw[if_pos rfl]at hz
    injection hz with hz
    subst hz
    rcases hg1 with⟨a,b,c⟩|⟨z,a,b⟩
    ·exact .inl ⟨rfl,a,b,c⟩
    ·exact .inr ⟨z,a,b⟩
   ·rw[if_neg h2]at hz;exact .inr ⟨z,hz,rfl⟩
 refine⟨fun q z hz=> ?_,fun q L hd=> ?_,fun q L hd e he=> ?_,⟨fun q z hz=> ?_,fun q r z z2 hz hz2 e=> ?_⟩,?_,?_,?_,?_,fun q s j hf=> ?_,fun q L hd hq=> ?_,fun q L hd=> ?_⟩
 ·rcases hgs q z hz with⟨rfl,_⟩|⟨z',hz',_⟩
  ·exact⟨by have:=G.n1;omega,G.n2⟩
  ·exact h.far q z' hz'
 ·rw[G.dirs]at hd
  by_cases h1:q=m
  ·rw[if_pos h1]at hd
   injection hd with hd
   subst hd
   obtain⟨a,b,c⟩:=VH (s:=x) (ino:=n) hM.1 hM.2.1
   exact⟨a,b,by omega⟩
  ·rw[if_neg h1]at hd
   by_cases h2:q=n
   ·rw[if_pos h2]at hd
    rcases G.dn' with e|e
    ·rw[e]at hd;cases hd
    ·rw[e]at hd;injection hd with hd;subst hd;exact⟨List.Pairwise.nil,by simp,by simp⟩
   ·rw[if_neg h2]at hd
    obtain⟨a,b,c⟩:=h.dir q L hd
    exact⟨a,b,by omega⟩
 ·have old: ∀q L,aS T q=some L→e ∈ L→∃z,T'.l e.ino.toNat=some z:=fun q L hd he=>by
   obtain⟨z,hz⟩:=h.here q L hd e he
   exact G.keep hz
  rw[G.dirs]at hd
  by_cases h1:q=m
  ·rw[if_pos h1]at hd
   injection hd with hd
   subst hd
   rcases(G.mem e).1 he with rfl|he
   ·simp only[Int.toNat_natCast]
    rw[G.l,if_neg (fun e=>G.ne e.symm),if_pos rfl];exact⟨_,rfl⟩
   ·exact old m M G.dm he
  ·rw[if_neg h1]at hd
   by_cases h2:q=n
   ·rw[if_pos h2]at hd
    rcases G.dn' with e'|e'
    ·rw[e']at hd;cases hd
    ·rw[e']at hd;injection hd with hd;subst hd;cases he
   ·rw[if_neg h2]at hd;exact old q L hd he
 ·have h1:=h.gen
  rcases hgs q z hz with⟨rfl,_,a,b⟩|⟨z',hz',e⟩
  ·refine⟨by omega,by omega,?_⟩
   have:=G.n1
   constructor <;> intro hh <;> omega
  ·have:=h.yf.lim q z' hz'
   rw[e]at this
   exact⟨this.1,by omega,this.2.2⟩
 ·rcases hgs q z hz with⟨rfl,_,a,b⟩|⟨z',hz',e1⟩
  ·rcases hgs r z2 hz2 with⟨rfl,_⟩|⟨z2',hz2',e2⟩
   ·rfl
   ·have:=(h.yf.lim r z2' hz2').2.1;omega
  ·rcases hgs r z2 hz2 with⟨rfl,_,a,b⟩|⟨z2',hz2',e2⟩
   ·have:=(h.yf.lim q z' hz').2.1;omega
   ·exact h.yf.one q r z' z2' hz' hz2' (by omega)
 ·have:=h.gen;omega
 ·obtain⟨L,hL⟩:=h.root
  by_cases h1:(1:Nat)=m
  ·exact⟨_,by rw[G.dirs,if_pos h1]⟩
  ·exact⟨L,by rw[G.dirs,if_neg h1,if_neg (by have:=G.n1;omega)];exact hL⟩
 ·rw[hnm,h.top,if_neg (by have:=G.n1;omega)]
 ·rw[htot]
  refine⟨?_,h.tot.2⟩
  have e:jZ T' 256=jZ T 256:=by
   rw[pO,pO]
   refine OZ (fun q=> ?_) 256
   unfold vS
   rw[G.l]
   by_cases h1:q=m
   ·subst h1;rw[if_pos rfl,G.am];rfl
   ·rw[if_neg h1]
    by_cases h2:q=n
    ·subst h2;rw[if_pos rfl];simp only[];rw[hsz];rfl
    ·rw[if_neg h2]
  rw[e];exact h.tot.1
 ·rw[nD,G.l]at hf
  by_cases h1:q=m
  ·rw[if_pos h1]at hf;cases hf
  ·rw[if_neg h1]at hf
   by_cases h2:q=n
   ·subst h2
    rw[if_pos rfl]at hf
    obtain⟨a,b,c,d⟩:=qbD s j hf
    exact⟨a,by rw[hnm,if_pos rfl];omega,c,d⟩
   ·rw[if_neg h2,←nD]at hf
    obtain⟨a,b,c,d⟩:=h.file q s j hf
    exact⟨a,by rw[hnm,if_neg (fun e=>h2 e.symm)];omega,c,d⟩
 ·rw[G.dirs]at hd
  by_cases h1:q=m
  ·subst h1
   rw[hnm,if_neg (fun e=>G.ne e.symm),h.one q M G.dm hq]
  ·rw[if_neg h1]at hd
   by_cases h2:q=n
   ·subst h2
    rw[if_pos rfl]at hd
    rw[hnm,if_pos rfl,qcZ L hd]
   ·rw[if_neg h2]at hd
    rw[hnm,if_neg (fun e=>h2 e.symm),h.one q L hd hq]
 ·have old: ∀q L,aS T q=some L→∃P,Walk T' 1 P q:=fun q L hd=>by
   obtain⟨P,w⟩:=h.rch q L hd
   exact⟨P,qI (fun _ _ _ e=>G.GQ e) P 1 q w⟩
  rw[G.dirs]at hd
  by_cases h1:q=m
  ·subst h1;exact old q M G.dm
  ·rw[if_neg h1]at hd
   by_cases h2:q=n
   ·subst h2
    obtain⟨P,w⟩:=old m M G.dm
    exact⟨P++[x],y9.2 ⟨m,w,G.new⟩⟩
   ·rw[if_neg h2]at hd;exact old q L hd
theorem eP.weak {k j:Nat}{T:aQ}(h:eP k T)(hj:k≤j):eP j T:=
 ⟨h.far,fun n L hd=>by obtain⟨a,b,c⟩:=h.dir n L hd;exact⟨a,b,by omega⟩,h.here,h.yf,by have:=h.gen;omega,h.root,h.top,h.tot,h.file,h.one,h.rch⟩
theorem za {T:aQ}{m:Nat}{g:Int}{M L:List aP}(h:T.l m=some (g,.dir M)):T.lu m L=T.put m (some (g,.dir L)):=by unfold aQ.lu;rw[h]
theorem eP.qh5 {k:Nat}{T:aQ}(h:eP k T){s:List UInt8}{d:oN}(hd:d = .dir []∨d = .file [] 1):eP (k+1) (UT T s d).1:=by
 have hw:=h.weak (Nat.le_succ k)
 unfold UT
 cases hp:(cK T s).1 with
 |none=>exact hw
 |some y=>
  obtain⟨m,x⟩:=y
  simp only[]
  cases hM:aS T m with
  |none=>exact hw
  |some M=>
   simp only[]
   by_cases hl:(bF M x).2=0
   ·rw[if_pos hl];exact hw
   ·rw[if_neg hl]
    by_cases hf:su T=0
    ·rw[if_pos hf];exact hw
    ·rw[if_neg hf]
     obtain⟨n2,n256,nn⟩:=SI hf
     generalize su T=n at *
     obtain⟨g,hg⟩:=jq hM
     have hmn:m≠n:=fun e=>by rw[e,nn]at hg;cases hg
     have h2:({T.put n (some (T.gen+1,d))with gen:=T.gen+1}:aQ).l m=some (g,.dir M):=by
      show(if m=n then _ else T.l m)=_
      rw[if_neg hmn];exact hg
     rw[za h2]
     have hfr:=h.fresh nn
     refine h.grow (m:=m) (n:=n) (x:=x) (M:=M) (g:=g) (y:=(T.gen+1,d)) ⟨fun q=>rfl,hg,hmn,by rw[jv,nn];rfl,?_,n2,n256,l6 hp,hl⟩ ⟨?_,Int.le_refl _⟩ rfl ?_ (.inl ⟨nn,rfl,rfl⟩) ?_ (fun L _=>hfr)
     ·rcases hd with rfl|rfl
      ·exact .inr rfl
      ·exact .inl rfl
     ·show T.gen≤T.gen+1;omega
     ·unfold vS
      rw[nn]
      rcases hd with rfl|rfl <;> rfl
     ·intro t j hj
      rcases hd with rfl|rfl
      ·cases hj
      ·simp only[MZ,Option.some.injEq,Prod.mk.injEq]at hj
       obtain⟨rfl,rfl⟩:=hj
       rw[hfr]
       exact⟨by simp,by omega,by omega,by omega⟩
theorem eP.qh6 {k:Nat}{T:aQ}(h:eP k T){s t:List UInt8}:eP (k+1) (OM T s t).1:=by
 have hw:=h.weak (Nat.le_succ k)
 unfold OM
 by_cases h0: ¬ (aR T s).2=0
 ·rw[if_pos h0];exact hw
 ·rw[if_neg h0]
  cases hp:(cK T t).1 with
  |none=>exact hw
  |some y=>
   obtain⟨m,x⟩:=y
   simp only[]
   generalize (aR T s).1=n at *
   cases hf:dS T n with
   |none=>exact hw
   |some z=>
    obtain⟨u,j⟩:=z
    simp only[]
    cases hM:aS T m with
    |none=>exact hw
    |some M=>
     simp only[]
     by_cases hl:(bF M x).2=0
     ·rw[if_pos hl];exact hw
     ·rw[if_neg hl]
      by_cases Qf:100≤j
      ·rw[if_pos Qf];exact hw
      ·rw[if_neg Qf]
       obtain⟨g,hg⟩:=jq hM
       obtain⟨gn,hn⟩:=sD hf
       simp only[]at hn
       rw[hn]
       simp only[Option.elim_some]
       have hmn:m≠n:=fun e=>by rw[e,hn]at hg;cases hg
       have h2:(T.put n (some (gn,.file u (j+1)))).l m=some (g,.dir M):=by
        show(if m=n then _ else T.l m)=_
        rw[if_neg hmn];exact hg
       rw[za h2]
       have hfn:=h.far n _ hn
       have hn1:n≠1:=fun e=>by
        obtain⟨L,hL⟩:=h.root
        rw[e]at hn
        rw[jv,hn]at hL;cases hL
       obtain⟨f1,f2,f3,f4⟩:=h.file n u j hf
       refine h.grow (m:=m) (n:=n) (x:=x) (M:=M) (g:=g) (y:=(gn,.file u (j+1))) ⟨fun q=>rfl,hg,hmn,by rw[jv,hn];rfl,.inl rfl,by omega,hfn.2,l6 hp,hl⟩ ⟨Int.le_refl _,?_⟩ rfl ?_ (.inr ⟨_,hn,rfl⟩) ?_ (fun L hL=>by cases hL)
       ·show T.gen≤T.gen+1;omega
       ·unfold vS;rw[hn];rfl
       ·intro v i hi
        simp only[MZ,Option.some.injEq,Prod.mk.injEq]at hi
        obtain⟨rfl,rfl⟩:=hi
        exact⟨f1,by omega,by omega,by omega⟩
theorem eP.qdv {k:Nat}{T:aQ}(h:eP k T){n:Nat}{t:List UInt8}(ht:t.length≤16384):eP k (MH T n t).1:=by
 unfold MH
 cases hx:T.l n with
 |none=>exact h
 |some y=>
  obtain⟨g,d⟩:=y
  cases d with
  |dir L=>exact h
  |file s j=>
   simp only[]
   by_cases hb:65536<T.total-(s.length:Int)+(t.length:Int)
   ·rw[if_pos hb];exact h
   ·rw[if_neg hb]
    simp only[]
    obtain⟨T',hT'⟩: ∃T',T'=({T.put n (some (g,.file t j))with total:=T.total+((t.length:Int)-(s.length:Int))}:aQ):=⟨_,rfl⟩
    rw[←hT']
    have hl: ∀q,T'.l q=if q=n then some (g,.file t j)else T.l q:=fun q=>by rw[hT'];rfl
    have QL:T'.gen=T.gen:=by rw[hT'];rfl
    have htot:T'.total=T.total+((t.length:Int)-(s.length:Int)):=by rw[hT']
    have hd: ∀q,aS T' q=aS T q:=fun q=>by
     rw[jv,jv,hl]
     by_cases hq:q=n
     ·subst hq;rw[if_pos rfl,hx];rfl
     ·rw[if_neg hq]
    have hnm: ∀q,bG T' 256 q=bG T 256 q:=fun q=>MU hd 256 q
    have hgs: ∀q z,T'.l q=some z→∃z',T.l q=some z'∧z'.1=z.1:=fun q z hz=>by
     rw[hl]at hz
     by_cases hq:q=n
     ·subst hq;rw[if_pos rfl]at hz;injection hz with hz;subst hz;exact⟨_,hx,rfl⟩
     ·rw[if_neg hq]at hz;exact⟨z,hz,rfl⟩
    have hkeep: ∀q z,T.l q=some z→∃z',T'.l q=some z':=fun q z hz=>by
     rw[hl]
     by_cases hq:q=n
     ·rw[if_pos hq];exact⟨_,rfl⟩
     ·rw[if_neg hq];exact⟨z,hz⟩
    have Ih:=(h.far n _ hx).2
    have hsz:jZ T' 256+s.length=jZ T 256+t.length:=by
     have h1:=(rG (f:=vS T') (g:=vS T) (m:=n) (fun q hq=>by unfold vS;rw[hl,if_neg hq]) 256).1 Ih
     have h2:vS T n=s.length:=by unfold vS;rw[hx];rfl
     have h3:vS T' n=t.length:=by unfold vS;rw[hl,if_pos rfl];rfl
     rw[←pO,←pO,h2,h3]at h1
     exact h1
    refine⟨fun q z hz=> ?_,fun q L hL=>h.dir q L (by rw[←hd];exact hL),fun q L hL e he=> ?_,⟨fun q z hz=> ?_,fun q r z z2 hz hz2 e=> ?_⟩,by rw[QL];exact h.gen,?_,by rw[hnm];exact h.top,?_,fun q u i hu=> ?_,fun q L hL hq=>by rw[hnm];exact h.one q L (by rw[←hd];exact hL) hq,fun q L hL=> ?_⟩
    ·obtain⟨z',hz',_⟩:=hgs q z hz;exact h.far q z' hz'
    ·obtain⟨z,hz⟩:=h.here q L (by rw[←hd];exact hL) e he
     exact hkeep _ z hz
    ·obtain⟨z',hz',e⟩:=hgs q z hz
     rw[QL,←e];exact h.yf.lim q z' hz'
    ·obtain⟨z',hz',e1⟩:=hgs q z hz
     obtain⟨z2',hz2',e2⟩:=hgs r z2 hz2
     exact h.yf.one q r z' z2' hz' hz2' (by rw[e1,e2,e])
    ·obtain⟨L,hL⟩:=h.root;exact⟨L,by rw[hd];exact hL⟩
    ·have:=h.tot;omega
    ·rw[nD,hl]at hu
     rw[hnm]
     by_cases hq:q=n
     ·subst hq
      rw[if_pos rfl]at hu
      simp only[MZ,Option.some.injEq,Prod.mk.injEq]at hu
      obtain⟨rfl,rfl⟩:=hu
      obtain⟨_,b,c,d⟩:=h.file q s j (by rw[nD,hx];rfl)
      exact⟨ht,b,c,d⟩
     ·rw[if_neg hq,←nD]at hu;exact h.file q u i hu
    ·obtain⟨P,w⟩:=h.rch q L (by rw[←hd];exact hL)
     exact⟨P,qI (fun a s b ⟨L,h1,h2⟩=>⟨L,by rw[hd];exact h1,h2⟩) P 1 q w⟩
theorem eP.qeK {k:Nat}{T:aQ}(h:eP k T){s t:List UInt8}{o:Int}:eP k (Cx T s o t).1:=by
 unfold Cx
 cases ho:(mo T s).1 with
 |none=>exact h
 |some n=>
  simp only[]
  unfold MJ
  by_cases h1:o<0
  ·rw[if_pos h1];exact h
  ·rw[if_neg h1]
   by_cases h2:16384<t.length∨16384-(t.length:Int)<o
   ·rw[if_pos h2];exact h
   ·rw[if_neg h2]
    by_cases h3:t=[]
    ·rw[if_pos h3];exact h
    ·rw[if_neg h3]
     cases hf:dS T n with
     |none=>exact h
     |some x=>
      have hx:=(h.file n x.1 x.2 hf).1
      exact h.qdv (by rw[MB];omega)
theorem eP.qeL {k:Nat}{T:aQ}(h:eP k T){s:List UInt8}{o:Int}:eP k (Cy T s o).1:=by
 unfold Cy
 cases ho:(mo T s).1 with
 |none=>exact h
 |some n=>
  simp only[]
  by_cases h1:o<0∨16384<o
  ·rw[if_pos h1];exact h
  ·rw[if_neg h1]
   cases hf:dS T n with
   |none=>exact h
   |some x=>exact h.qdv (by unfold qcS;simp[xX];omega)
structure E5 (T T':aQ)(m n:Nat)(x:List UInt8)(M:List aP)(g:Int)(y:Option (Int×oN)):Prop where
 l: ∀q,T'.l q=if q=n then y else if q=m then some (g,.dir (jb M x).1)else T.l q
 am:T.l m=some (g,.dir M)
 ne:m≠n
 dn:dE T n=[]
 dn':U6 y=none
 yes:(bF M x).2=0
 at':(bF M x).1=(n:Int)
theorem E5.dirs {T T':aQ}{m n:Nat}{x:List UInt8}{M:List aP}{g:Int}{y:Option (Int×oN)}(h:E5 T T' m n x M g y)(q:Nat):aS T' q=if q=n then none else if q=m then some (jb M x).1 else aS T q:=by
 rw[jv,jv,h.l]
 by_cases h1:q=n
 ·rw[if_pos h1,if_pos h1,h.dn']
 ·rw[if_neg h1,if_neg h1]
  by_cases h2:q=m
  ·rw[if_pos h2,if_pos h2];rfl
  ·rw[if_neg h2,if_neg h2]
theorem E5.dm {T T':aQ}{m n:Nat}{x:List UInt8}{M:List aP}{g:Int}{y:Option (Int×oN)}(h:E5 T T' m n x M g y):aS T m=some M:=by rw[jv,h.am];rfl
theorem qbE {T:aQ}{n:Nat}(h:dE T n=[]){s:List UInt8}{b:Nat}: ¬ GQ T n s b:=by
 rintro⟨L,hd,he⟩
 unfold dE at h
 rw[hd]at h
 simp only[Option.getD_some]at h
 rw[h]at he
 cases he
theorem E5.GQ {T T':aQ}{m n:Nat}{x:List UInt8}{M:List aP}{g:Int}{y:Option (Int×oN)}(h:E5 T T' m n x M g y)(hs:dz M)(a:Nat)(s:List UInt8)(b:Nat)(e:GQ T a s b):(a=m∧s=x∧b=n)∨GQ T' a s b:=by
 have e0:=e
 obtain⟨L,hd,he⟩:=e
 by_cases hn:a=n
 ·subst hn;exact absurd e0 (qbE h.dn)
 ·by_cases ha:a=m
  ·subst ha
   rw[h.dm]at hd
   injection hd with hd
   subst hd
   by_cases hsx:s=x
   ·subst hsx
    have:=VT hs he (mq h.yes).1
    rw[h.at']at this
    exact .inl ⟨rfl,rfl,by omega⟩
   ·exact .inr ⟨_,by rw[h.dirs,if_neg hn,if_pos rfl],(EX hs h.yes _).2 ⟨he,hsx⟩⟩
  ·exact .inr ⟨L,by rw[h.dirs,if_neg hn,if_neg ha];exact hd,he⟩
theorem E5.names {T T':aQ}{m n:Nat}{x:List UInt8}{M:List aP}{g:Int}{y:Option (Int×oN)}(h:E5 T T' m n x M g y)(hm:m<256)(j:Nat):bG T' 256 j+(if n=j then 1 else 0)=bG T 256 j:=by
 have hq: ∀q,q≠m→cE (dE T' q) j=cE (dE T q) j:=fun q hq=>by
  by_cases hn:q=n
  ·subst hn
   rw[h.dn]
   unfold dE
   rw[h.dirs,if_pos rfl];rfl
  ·unfold dE
   rw[h.dirs,if_neg hn,if_neg hq]
 have h1:=(rG hq 256).1 hm
 rw[←iQ,←iQ]at h1
 have h2:cE (dE T' m) j+(if n=j then 1 else 0)=cE (dE T m) j:=by
  unfold dE
  rw[h.dirs,if_neg h.ne,if_pos rfl,h.dm]
  simp only[Option.getD_some]
  rw[←qbC h.yes j,h.at']
  by_cases hj:n=j
  ·subst hj;rw[if_pos rfl,if_pos rfl]
  ·rw[if_neg hj,if_neg (by omega)]
 omega
theorem eP.less {k:Nat}{T T':aQ}{m n:Nat}{x:List UInt8}{M:List aP}{g:Int}{y:Option (Int×oN)}(h:eP k T)(G:E5 T T' m n x M g y)(QL:T'.gen=T.gen)(hn1:n≠1)(hn2:n<256)
 (hy:(y=none∧bG T 256 n=1∧T'.total=T.total-(vS T n:Nat))∨∃gn s j,y=some (gn,.file s (j-1))∧T.l n=some (gn,.file s j)∧2≤j∧T'.total=T.total):eP k T':=by
 have hm:=(h.far m _ G.am).2
 have hM:=h.dir m M G.dm
 have hnm:=G.names hm
 have hgs: ∀q z,T'.l q=some z→∃z',T.l q=some z'∧z'.1=z.1:=fun q z hz=>by
  rw[G.l]at hz
  by_cases h1:q=n
  ·subst h1
   rw[if_pos rfl]at hz
   rcases hy with⟨rfl,_⟩|⟨gn,s,j,rfl,a,_⟩
   ·cases hz
   ·injection hz with hz;subst hz;exact⟨_,a,rfl⟩
  ·rw[if_neg h1]at hz
   by_cases h2:q=m
   ·subst h2;rw[if_pos rfl]at hz;injection hz with hz;subst hz;exact⟨_,G.am,rfl⟩
   ·rw[if_neg h2]at hz;exact⟨z,hz,rfl⟩
 have hsub: ∀q L,aS T' q=some L→∃L0,aS T q=some L0∧(∀e ∈ L,e ∈ L0)∧q≠n:=fun q L hd=>by
  rw[G.dirs]at hd
  by_cases h1:q=n
  ·rw[if_pos h1]at hd;cases hd
  ·rw[if_neg h1]at hd
   by_cases h2:q=m
   ·subst h2
    rw[if_pos rfl]at hd
    injection hd with hd
    subst hd
    exact⟨M,G.dm,fun e he=>((EX hM.1 G.yes e).1 he).1,h1⟩
   ·rw[if_neg h2]at hd;exact⟨L,hd,fun e he=>he,h1⟩
 have hsz:jZ T' 256+vS T n=jZ T 256+vS T' n:=by
  have h1:=(rG (f:=vS T') (g:=vS T) (m:=n) (fun q hq=>by
   unfold vS
   rw[G.l,if_neg hq]
   by_cases h2:q=m
   ·subst h2;rw[if_pos rfl,G.am];rfl
   ·rw[if_neg h2]) 256).1 hn2
  rw[←pO,←pO]at h1
  exact h1
 refine⟨fun q z hz=> ?_,fun q L hd=> ?_,fun q L hd e he=> ?_,⟨fun q z hz=> ?_,fun q r z z2 hz hz2 e=> ?_⟩,by rw[QL];exact h.gen,?_,?_,?_,fun q s j hf=> ?_,fun q L hd hq=> ?_,fun q L hd=> ?_⟩
 ·obtain⟨z',hz',_⟩:=hgs q z hz;exact h.far q z' hz'
 ·rw[G.dirs]at hd
  by_cases h1:q=n
  ·rw[if_pos h1]at hd;cases hd
  ·rw[if_neg h1]at hd
   by_cases h2:q=m
   ·rw[if_pos h2]at hd
    injection hd with hd
    subst hd
    obtain⟨a,b,c⟩:=Qs (s:=x) hM.1 hM.2.1
    exact⟨a,b,by omega⟩
   ·rw[if_neg h2]at hd;exact h.dir q L hd
 ·obtain⟨L0,hd0,hs,_⟩:=hsub q L hd
  obtain⟨z,hz⟩:=h.here q L0 hd0 e (hs e he)
  have ho:=(h.dir q L0 hd0).2.1 e (hs e he)
  rw[G.l]
  by_cases h1:e.ino.toNat=n
  ·rw[if_pos h1]
   rcases hy with⟨rfl,a,_⟩|⟨gn,s,j,rfl,_⟩
   ·have qh7:=h.lt hd0
    have h2:1≤cE (dE T' q) n:=by
     unfold dE cE
     rw[hd]
     refine List.countP_pos_iff.2 ⟨e,he,?_⟩
     have:=ho.2.1
     exact decide_eq_true (by omega)
    have h3:=uL (f:=fun n'=>cE (dE T' n') n) (m:=q) 256 qh7
    rw[←iQ]at h3
    have h4:=hnm n
    rw[if_pos rfl]at h4
    omega
   ·exact⟨_,rfl⟩
  ·rw[if_neg h1]
   by_cases h2:e.ino.toNat=m
   ·rw[if_pos h2];exact⟨_,rfl⟩
   ·rw[if_neg h2];exact⟨z,hz⟩
 ·obtain⟨z',hz',e⟩:=hgs q z hz
  rw[QL,←e];exact h.yf.lim q z' hz'
 ·obtain⟨z',hz',e1⟩:=hgs q z hz
  obtain⟨z2',hz2',e2⟩:=hgs r z2 hz2
  exact h.yf.one q r z' z2' hz' hz2' (by rw[e1,e2,e])
 ·obtain⟨L,hL⟩:=h.root
  by_cases h1:(1:Nat)=m
  ·exact⟨_,by rw[G.dirs,if_neg (fun e=>hn1 e.symm),if_pos h1]⟩
  ·exact⟨L,by rw[G.dirs,if_neg (fun e=>hn1 e.symm),if_neg h1];exact hL⟩
 ·have:=hnm 1
  rw[h.top]at this
  omega
 ·have ht:=h.tot
  rcases hy with⟨rfl,_,b⟩|⟨gn,s,j,rfl,a,_,b⟩
  ·have h3:vS T' n=0:=by unfold vS;rw[G.l,if_pos rfl]
   omega
  ·have h3:vS T' n=s.length:=by unfold vS;rw[G.l,if_pos rfl];rfl
   have h4:vS T n=s.length:=by unfold vS;rw[a];rfl
   omega
 ·rw[nD,G.l]at hf
  have hq:=hnm q
  by_cases h1:q=n
  ·subst h1
   rw[if_pos rfl]at hf hq
   rcases hy with⟨rfl,_⟩|⟨gn,t,i,rfl,a,b,_⟩
   ·cases hf
   ·simp only[MZ,Option.some.injEq,Prod.mk.injEq]at hf
    obtain⟨rfl,rfl⟩:=hf
    obtain⟨c1,c2,c3,c4⟩:=h.file q t i (by rw[nD,a];rfl)
    exact⟨c1,by omega,by omega,by omega⟩
  ·rw[if_neg h1]at hf
   rw[if_neg (fun e=>h1 e.symm)]at hq
   by_cases h2:q=m
   ·rw[if_pos h2]at hf;cases hf
   ·rw[if_neg h2,←nD]at hf
    obtain⟨c1,c2,c3,c4⟩:=h.file q s j hf
    exact⟨c1,by omega,c3,c4⟩
 ·obtain⟨L0,hd0,_,hqn⟩:=hsub q L hd
  have:=hnm q
  rw[if_neg (fun e=>hqn e.symm),h.one q L0 hd0 hq]at this
  omega
 ·obtain⟨L0,hd0,_,hqn⟩:=hsub q L hd
  obtain⟨P,w⟩:=h.rch q L0 hd0
  rcases yh (fun a s b e=>G.GQ hM.1 a s b e) P 1 q w with w'|⟨P1,P2,rfl,_,w2⟩
  ·exact⟨P,w'⟩
  ·cases P2 with
   |nil=>exact absurd w2.symm hqn
   |cons s P2=>obtain⟨j,e,_⟩:=w2;exact absurd e (qbE G.dn)
theorem eP.qeM {k:Nat}{T:aQ}(h:eP k T){s:List UInt8}:eP k (GJ T s).1:=by
 unfold GJ
 by_cases h0: ¬ (aR T s).2=0
 ·rw[if_pos h0];exact h
 ·rw[if_neg h0]
  have h0:(aR T s).2=0:=Classical.not_not.1 h0
  cases hd:aS T (aR T s).1 with
  |none=>exact h
  |some L=>
   simp only[]
   by_cases h1:(aR T s).1=1
   ·rw[if_pos h1];exact h
   ·rw[if_neg h1]
    by_cases hL:0<L.length
    ·rw[if_pos hL];exact h
    ·rw[if_neg hL]
     obtain⟨m,x,M,e1,e2,e3,e4⟩:=qG h0 h1
     simp only[e1,e2]
     generalize (aR T s).1=n at *
     obtain⟨g,hg⟩:=jq e2
     have hL0:L=[]:=List.length_eq_zero_iff.1 (by omega)
     subst hL0
     rw[za hg]
     obtain⟨hm1,_⟩:=mq e3
     have ho:=(h.dir m M e2).2.1 _ hm1
     have hat:(bF M x).1=(n:Int):=by have:=ho.2.1;simp only[]at this;omega
     have hmn:m≠n:=fun e=>by
      rw[e,hd]at e2
      injection e2 with e2
      rw[←e2]at hm1
      cases hm1
     obtain⟨gn,hn⟩:=jq hd
     have hsz:vS T n=0:=by unfold vS;rw[hn];rfl
     refine h.less (m:=m) (n:=n) (x:=x) (M:=M) (g:=g) (y:=none) ⟨fun q=>rfl,hg,hmn,by unfold dE;rw[hd];rfl,rfl,e3,hat⟩ rfl h1 (h.lt hd) (.inl ⟨rfl,h.one n [] hd h1,?_⟩)
     rw[hsz]
     show T.total=T.total-((0:Nat):Int)
     omega
theorem eP.qc0 {k:Nat}{T:aQ}(h:eP k T){s:List UInt8}:eP k (yU T s).1:=by
 unfold yU
 by_cases h0: ¬ (aR T s).2=0
 ·rw[if_pos h0];exact h
 ·rw[if_neg h0]
  have h0:(aR T s).2=0:=Classical.not_not.1 h0
  cases hf:dS T (aR T s).1 with
  |none=>exact h
  |some y=>
   obtain⟨u,j⟩:=y
   have h1:(aR T s).1≠1:=fun e=>by
    obtain⟨L,hL⟩:=h.root
    obtain⟨g,hg⟩:=sD hf
    rw[e]at hg
    rw[jv,hg]at hL;cases hL
   obtain⟨m,x,M,e1,e2,e3,e4⟩:=qG h0 h1
   simp only[e1,e2]
   generalize (aR T s).1=n at *
   obtain⟨g,hg⟩:=jq e2
   obtain⟨gn,hn⟩:=sD hf
   simp only[]at hn
   obtain⟨hm1,_⟩:=mq e3
   have ho:=(h.dir m M e2).2.1 _ hm1
   have hat:(bF M x).1=(n:Int):=by have:=ho.2.1;simp only[]at this;omega
   have hmn:m≠n:=fun e=>by rw[e,hn]at hg;cases hg
   have hdn:dE T n=[]:=by unfold dE;rw[jv,hn];rfl
   obtain⟨f1,f2,f3,f4⟩:=h.file n u j hf
   have Ih:=(h.far n _ hn).2
   have hsz:vS T n=u.length:=by unfold vS;rw[hn];rfl
   rw[za hg]
   by_cases hj:j-1=0
   ·rw[if_pos hj]
    refine h.less (m:=m) (n:=n) (x:=x) (M:=M) (g:=g) (y:=none) ⟨fun q=>rfl,hg,hmn,hdn,rfl,e3,hat⟩ rfl h1 Ih (.inl ⟨rfl,by omega,?_⟩)
    rw[hsz]
   ·rw[if_neg hj,hn]
    simp only[Option.elim_some]
    exact h.less (m:=m) (n:=n) (x:=x) (M:=M) (g:=g) (y:=some (gn,.file u (j-1))) ⟨fun q=>rfl,hg,hmn,hdn,rfl,e3,hat⟩ rfl h1 Ih (.inr ⟨gn,u,j,rfl,hn,by omega,rfl⟩)
theorem E8 {T:aQ}{s x:List UInt8}{m:Nat}(h:(cK T s).1=some (m,x)): ∃D,kT s=some (D++[x])∧(eO T D 1).2=0∧(eO T D 1).1=m:=by
 unfold cK at h
 cases hs:kT s with
 |none=>rw[hs]at h;cases h
 |some l=>
  rw[hs]at h
  simp only[]at h
  cases hl:l.getLast? with
  |none=>rw[hl]at h;cases h
  |some y=>
   rw[hl]at h
   simp only[]at h
   obtain⟨D,rfl⟩:=List.getLast?_eq_some_iff.1 hl
   rw[List.dropLast_concat]at h
   by_cases h0:(eO T D 1).2≠0
   ·rw[if_pos h0]at h;cases h
   ·rw[if_neg h0]at h
    cases hd:aS T (eO T D 1).1 with
    |none=>rw[hd]at h;cases h
    |some L=>
     rw[hd]at h
     simp only[Option.some.injEq,Prod.mk.injEq]at h
     exact⟨D,by rw[h.2],Classical.not_not.1 h0,h.1⟩
theorem eP.renameI {k:Nat}{T:aQ}(h:eP k T){s t:List UInt8}:eP (k+1) (yX T s t).1:=by
 have hw:=h.weak (Nat.le_succ k)
 unfold yX
 by_cases h0: ¬ (aR T s).2=0
 ·rw[if_pos h0];exact hw
 ·rw[if_neg h0]
  have h0:(aR T s).2=0:=Classical.not_not.1 h0
  cases hp:(cK T t).1 with
  |none=>exact hw
  |some y=>
   obtain⟨m2,x2⟩:=y
   simp only[]
   by_cases h1:(aR T s).1=1∨r9 s t=true
   ·rw[if_pos h1];exact hw
   ·rw[if_neg h1]
    have hn1:(aR T s).1≠1:=fun e=>h1 (.inl e)
    have hwi: ¬ r9 s t=true:=fun e=>h1 (.inr e)
    obtain⟨m1,x1,M1,e1,hM1,e3,e4⟩:=qG h0 hn1
    obtain⟨_,M2,hM2⟩:=qE hp
    obtain⟨D1,s1,s2,s3⟩:=E8 (T:=T) (s:=s) (x:=x1) (m:=m1) (by rw[e1])
    obtain⟨D2,t1,t2,t3⟩:=E8 hp
    have hx2:=l6 hp
    simp only[e1,hM2,hM1]
    by_cases heq:m1=m2∧x1=x2
    ·rw[if_pos heq];exact hw
    ·rw[if_neg heq]
     by_cases hl:(bF M2 x2).2=0
     ·rw[if_pos hl];exact hw
     ·rw[if_neg hl]
      have hok: ∀n L,aS T n=some L→∀e ∈ L,NJ e:=fun n L hd=>(h.dir n L hd).2.1
      have w1:Walk T 1 D1 m1:=s3▸QI hok D1 1 s2
      have w2:Walk T 1 D2 m2:=t3▸QI hok D2 1 t2
      generalize (aR T s).1=n at *
      obtain⟨g1,hg1⟩:=jq hM1
      obtain⟨g2,hg2⟩:=jq hM2
      obtain⟨hmem,_⟩:=mq e3
      have ho:=hok m1 M1 hM1 _ hmem
      have hat:(bF M1 x1).1=(n:Int):=by have:=ho.2.1;simp only[]at this;omega
      have Ih:n<256:=by have:=ho.2.2;simp only[]at this;omega
      have hn0:1≤n:=by have:=ho.2.1;simp only[]at this;omega
      have hs1:=(h.dir m1 M1 hM1).1
      have hs2:=(h.dir m2 M2 hM2).1
      obtain⟨T1,hT1⟩: ∃T1,T1=T.put m1 (some (g1,.dir (jb M1 x1).1)):=⟨_,rfl⟩
      rw[za hg1,←hT1]
      have l1: ∀q,T1.l q=if q=m1 then some (g1,.dir (jb M1 x1).1)else T.l q:=fun q=>by rw[hT1];rfl
      have d1: ∀q,aS T1 q=if q=m1 then some (jb M1 x1).1 else aS T q:=fun q=>by
       rw[jv,jv,l1]
       by_cases hq:q=m1
       ·rw[if_pos hq,if_pos hq];rfl
       ·rw[if_neg hq,if_neg hq]
      obtain⟨M3,hM3,hs3,ho3,hlen3,qdw⟩: ∃M3,aS T1 m2=some M3∧dz M3∧(∀e ∈ M3,NJ e)∧M3.length≤k∧∀e ∈ M3,e ∈ M2:=by
       by_cases hm:m2=m1
       ·subst hm
        rw[hM1]at hM2
        injection hM2 with hM2
        subst hM2
        obtain⟨a,b,c⟩:=Qs (s:=x1) hs1 (hok _ _ hM1)
        exact⟨_,by rw[d1,if_pos rfl],a,b,by have:=(h.dir _ _ hM1).2.2;omega,fun e he=>((EX hs1 e3 e).1 he).1⟩
       ·exact⟨M2,by rw[d1,if_neg hm];exact hM2,hs2,hok _ _ hM2,(h.dir _ _ hM2).2.2,fun e he=>he⟩
      have hl3:(bF M3 x2).2≠0:=(VW hs3).2 fun i hi=>(VW hs2).1 hl i (qdw _ hi)
      obtain⟨g3,hg3⟩:=jq hM3
      simp only[hM3]
      rw[za hg3]
      obtain⟨T2,hT2⟩: ∃T2,T2=T1.put m2 (some (g3,.dir (jc M3 x2 n).1)):=⟨_,rfl⟩
      rw[←hT2]
      have l2: ∀q,T2.l q=if q=m2 then some (g3,.dir (jc M3 x2 n).1)else T1.l q:=fun q=>by rw[hT2];rfl
      have d2: ∀q,aS T2 q=if q=m2 then some (jc M3 x2 n).1 else aS T1 q:=fun q=>by
       rw[jv,jv,l2]
       by_cases hq:q=m2
       ·rw[if_pos hq,if_pos hq];rfl
       ·rw[if_neg hq,if_neg hq]
      have hadd: ∀e,e ∈ (jc M3 x2 n).1↔e=⟨x2,(n:Int)⟩∨e ∈ M3:=VQ (by omega) (by omega) hx2 hl3
      have QL:T2.gen=T.gen:=by rw[hT2,hT1];rfl
      have htot:T2.total=T.total:=by rw[hT2,hT1];rfl
      have qh8: ∀q z,T1.l q=some z→∃z',T.l q=some z'∧z'.1=z.1:=fun q z hz=>by
       rw[l1]at hz
       by_cases hq:q=m1
       ·subst hq;rw[if_pos rfl]at hz;injection hz with hz;subst hz;exact⟨_,hg1,rfl⟩
       ·rw[if_neg hq]at hz;exact⟨z,hz,rfl⟩
      have hgs: ∀q z,T2.l q=some z→∃z',T.l q=some z'∧z'.1=z.1:=fun q z hz=>by
       rw[l2]at hz
       by_cases hq:q=m2
       ·subst hq
        rw[if_pos rfl]at hz
        injection hz with hz
        subst hz
        obtain⟨z',a,b⟩:=qh8 q _ hg3
        exact⟨z',a,b⟩
       ·rw[if_neg hq]at hz;exact qh8 q z hz
      have hkeep: ∀q z,T.l q=some z→∃z',T2.l q=some z':=fun q z hz=>by
       rw[l2]
       by_cases hq:q=m2
       ·rw[if_pos hq];exact⟨_,rfl⟩
       ·rw[if_neg hq,l1]
        by_cases hq1:q=m1
        ·rw[if_pos hq1];exact⟨_,rfl⟩
        ·rw[if_neg hq1];exact⟨z,hz⟩
      have qbD: ∀q,dS T2 q=dS T q:=fun q=>by
       rw[nD,nD,l2]
       by_cases hq:q=m2
       ·subst hq;rw[if_pos rfl,hg2];rfl
       ·rw[if_neg hq,l1]
        by_cases hq1:q=m1
        ·subst hq1;rw[if_pos rfl,hg1];rfl
        ·rw[if_neg hq1]
      have qlw: ∀q,vS T2 q=vS T q:=fun q=>by
       unfold vS
       rw[l2]
       by_cases hq:q=m2
       ·subst hq;rw[if_pos rfl,hg2];rfl
       ·rw[if_neg hq,l1]
        by_cases hq1:q=m1
        ·subst hq1;rw[if_pos rfl,hg1];rfl
        ·rw[if_neg hq1]
      have qcZ: ∀q L,aS T2 q=some L→∃L0,aS T q=some L0:=fun q L hd=>by
       rw[d2]at hd
       by_cases hq:q=m2
       ·subst hq;exact⟨M2,hM2⟩
       ·rw[if_neg hq,d1]at hd
        by_cases hq1:q=m1
        ·subst hq1;exact⟨M1,hM1⟩
        ·rw[if_neg hq1]at hd;exact⟨L,hd⟩
      have hm1:=h.lt hM1
      have hm2:=h.lt hM2
      have hnm: ∀j,bG T2 256 j=bG T 256 j:=fun j=>by
       have a1:=(rG (f:=fun q=>cE (dE T1 q) j) (g:=fun q=>cE (dE T q) j) (m:=m1) (fun q hq=>by unfold dE;rw[d1,if_neg hq]) 256).1 hm1
       have a2:=(rG (f:=fun q=>cE (dE T2 q) j) (g:=fun q=>cE (dE T1 q) j) (m:=m2) (fun q hq=>by unfold dE;rw[d2,if_neg hq]) 256).1 hm2
       have b1:cE (dE T1 m1) j+(if (n:Int)=(j:Int)then 1 else 0)=cE (dE T m1) j:=by
        unfold dE
        rw[d1,if_pos rfl,hM1]
        simp only[Option.getD_some]
        rw[←qbC e3 j,hat]
       have b2:cE (dE T2 m2) j=cE (dE T1 m2) j+if (n:Int)=(j:Int)then 1 else 0:=by
        unfold dE
        rw[d2,if_pos rfl,hM3]
        simp only[Option.getD_some]
        exact qbB (by omega) (by omega) hx2 hl3 j
       rw[←iQ,←iQ]at a1 a2
       omega
      have qeN: ∀a u b,GQ T a u b→(a=m1∧u=x1∧b=n)∨GQ T1 a u b:=fun a u b ⟨L,hd,he⟩=>by
       by_cases ha:a=m1
       ·subst ha
        rw[hM1]at hd
        injection hd with hd
        subst hd
        by_cases hu:u=x1
        ·subst hu
         have:=VT hs1 he hmem
         rw[hat]at this
         exact .inl ⟨rfl,rfl,by omega⟩
        ·exact .inr ⟨_,by rw[d1,if_pos rfl],(EX hs1 e3 _).2 ⟨he,hu⟩⟩
       ·exact .inr ⟨L,by rw[d1,if_neg ha];exact hd,he⟩
      have qeO: ∀a u b,GQ T1 a u b→GQ T2 a u b:=fun a u b ⟨L,hd,he⟩=>by
       by_cases ha:a=m2
       ·subst ha
        rw[hM3]at hd
        injection hd with hd
        subst hd
        exact⟨_,by rw[d2,if_pos rfl],(hadd _).2 (.inr he)⟩
       ·exact⟨L,by rw[d2,if_neg ha];exact hd,he⟩
      have qlx:GQ T2 m2 x2 n:=⟨_,by rw[d2,if_pos rfl],(hadd _).2 (.inl rfl)⟩
      have ew:GQ T m1 x1 n:=⟨M1,hM1,by rw[←hat];exact hmem⟩
      have v2:Walk T1 1 D2 m2:=by
       rcases yh qeN D2 1 m2 w2 with v|⟨A,B,rfl,v,_⟩
       ·exact v
       ·exfalso
        have hA:=h.path _ _ _ m1 M1 rfl hM1 w1 v
        subst hA
        apply hwi
        unfold r9
        rw[s1,t1]
        simp only[Bool.and_eq_true,decide_eq_true_eq]
        refine⟨by simp,?_⟩
        have:D1++x1::B++[x2]=(D1++[x1])++(B++[x2]):=by simp
        rw[this,List.take_left]
      refine⟨fun q z hz=> ?_,fun q L hd=> ?_,fun q L hd e he=> ?_,⟨fun q z hz=> ?_,fun q r z z2 hz hz2 e=> ?_⟩,by rw[QL];have:=h.gen;omega,?_,by rw[hnm];exact h.top,?_,fun q u j hf=>by rw[hnm];exact h.file q u j (by rw[←qbD];exact hf),fun q L hd hq=> ?_,fun q L hd=> ?_⟩
      ·obtain⟨z',hz',_⟩:=hgs q z hz;exact h.far q z' hz'
      ·rw[d2]at hd
       by_cases hq:q=m2
       ·rw[if_pos hq]at hd
        injection hd with hd
        subst hd
        obtain⟨a,b,c⟩:=VH (s:=x2) (ino:=n) hs3 ho3
        exact⟨a,b,by omega⟩
       ·rw[if_neg hq,d1]at hd
        by_cases hq1:q=m1
        ·rw[if_pos hq1]at hd
         injection hd with hd
         subst hd
         obtain⟨a,b,c⟩:=Qs (s:=x1) hs1 (hok _ _ hM1)
         exact⟨a,b,by have:=(h.dir _ _ hM1).2.2;omega⟩
        ·rw[if_neg hq1]at hd
         obtain⟨a,b,c⟩:=h.dir q L hd
         exact⟨a,b,by omega⟩
      ·have old: ∀q L,aS T q=some L→e ∈ L→∃z,T2.l e.ino.toNat=some z:=fun q L hd he=>by
        obtain⟨z,hz⟩:=h.here q L hd e he
        exact hkeep _ z hz
       rw[d2]at hd
       by_cases hq:q=m2
       ·rw[if_pos hq]at hd
        injection hd with hd
        subst hd
        rcases(hadd e).1 he with rfl|he
        ·have:=old m1 M1 hM1
         obtain⟨z,hz⟩:=h.here m1 M1 hM1 _ hmem
         rw[hat]at hz
         exact hkeep _ z hz
        ·exact old m2 M2 hM2 (qdw e he)
       ·rw[if_neg hq,d1]at hd
        by_cases hq1:q=m1
        ·rw[if_pos hq1]at hd
         injection hd with hd
         subst hd
         exact old m1 M1 hM1 ((EX hs1 e3 e).1 he).1
        ·rw[if_neg hq1]at hd;exact old q L hd he
      ·obtain⟨z',hz',e⟩:=hgs q z hz
       rw[QL,←e];exact h.yf.lim q z' hz'
      ·obtain⟨z',hz',e1⟩:=hgs q z hz
       obtain⟨z2',hz2',e2⟩:=hgs r z2 hz2
       exact h.yf.one q r z' z2' hz' hz2' (by rw[e1,e2,e])
      ·obtain⟨L,hL⟩:=h.root
       rw[d2]
       by_cases hq:(1:Nat)=m2
       ·rw[if_pos hq];exact⟨_,rfl⟩
       ·rw[if_neg hq,d1]
        by_cases hq1:(1:Nat)=m1
        ·rw[if_pos hq1];exact⟨_,rfl⟩
        ·rw[if_neg hq1];exact⟨L,hL⟩
      ·rw[htot,pO,OZ qlw,←pO];exact h.tot
      ·obtain⟨L0,hL0⟩:=qcZ q L hd
       rw[hnm];exact h.one q L0 hL0 hq
      ·obtain⟨L0,hL0⟩:=qcZ q L hd
       obtain⟨P,w⟩:=h.rch q L0 hL0
       rcases yh qeN P 1 q w with v|⟨A,B,rfl,va,vb⟩
       ·exact⟨P,qI qeO P 1 q v⟩
       ·rcases yh qeN B n q vb with v|⟨A2,B2,rfl,va2,_⟩
        ·exact⟨D2++x2::B,(jg _ _).2 ⟨m2,qI qeO D2 1 m2 v2,n,qlx,qI qeO B n q v⟩⟩
        ·exfalso
         have c1:Walk T 1 (A++x1::A2) m1:=(jg _ _).2 ⟨m1,va,n,ew,va2⟩
         have:=h.path _ _ _ m1 M1 rfl hM1 va c1
         have h3:=congrArg List.length this
         simp at h3
theorem eP.doI {k:Nat}{T:aQ}(h:eP k T)(x:y8):eP (k+1) (doT T x):=by
 have hw:=h.weak (Nat.le_succ k)
 unfold doT
 by_cases h0: ¬ ql x=0
 ·rw[if_pos h0];exact hw
 ·rw[if_neg h0]
  (repeat' split)
  ·exact h.qh5 (.inl rfl)
  ·exact h.qh5 (.inr rfl)
  ·exact h.qc0.weak (Nat.le_succ k)
  ·exact h.qeM.weak (Nat.le_succ k)
  ·exact h.renameI
  ·exact h.qh6
  ·exact h.qeK.weak (Nat.le_succ k)
  ·exact h.qeL.weak (Nat.le_succ k)
  ·exact hw
theorem M0 (q:Nat):CE.l q=if q=1 then some (0,.dir [])else none:=rfl
theorem qc7 (q:Nat):dE CE q=[]:=by
 unfold dE
 rw[jv,M0]
 by_cases h:q=1
 ·rw[if_pos h];rfl
 ·rw[if_neg h];rfl
theorem U7 (i k:Nat):bG CE i k=0:=by
 induction i with
 |zero=>rfl
 |succ i ih=>rw[x8,ih,qc7];rfl
theorem qbF (i:Nat):jZ CE i=0:=by
 induction i with
 |zero=>rfl
 |succ i ih=>
  rw[qH,ih]
  unfold vS
  rw[M0]
  by_cases h:i=1
  ·rw[if_pos h];rfl
  ·rw[if_neg h];rfl
theorem eP.qly:eP 0 CE:=by
 have hl: ∀q x,CE.l q=some x→q=1∧x=(0,.dir []):=fun q x hx=>by
  rw[M0]at hx
  by_cases h:q=1
  ·rw[if_pos h]at hx;injection hx with hx;exact⟨h,hx.symm⟩
  ·rw[if_neg h]at hx;cases hx
 have hd: ∀q L,aS CE q=some L→q=1∧L=[]:=fun q L hL=>by
  rw[jv,M0]at hL
  by_cases h:q=1
  ·rw[if_pos h]at hL;injection hL with hL;exact⟨h,hL.symm⟩
  ·rw[if_neg h]at hL;cases hL
 refine⟨fun q x hx=> ?_,fun q L hL=> ?_,fun q L hL e he=> ?_,⟨fun q x hx=> ?_,fun q r x y hx hy _=> ?_⟩,⟨Int.le_refl _,Int.le_refl _⟩,⟨[],rfl⟩,U7 _ _,⟨by rw[qbF];rfl,by decide⟩,fun q s k hf=> ?_,fun q L hL hq=> ?_,fun q L hL=> ?_⟩
 ·obtain⟨rfl,_⟩:=hl q x hx;omega
 ·obtain⟨_,rfl⟩:=hd q L hL;exact⟨List.Pairwise.nil,by simp,by simp⟩
 ·obtain⟨_,rfl⟩:=hd q L hL;cases he
 ·obtain⟨rfl,rfl⟩:=hl q x hx
  exact⟨Int.le_refl _,Int.le_refl _,fun _=>rfl,fun _=>rfl⟩
 ·rw[(hl q x hx).1,(hl r y hy).1]
 ·rw[nD,M0]at hf
  by_cases h:q=1
  ·rw[if_pos h]at hf;cases hf
  ·rw[if_neg h]at hf;cases hf
 ·exact absurd (hd q L hL).1 hq
 ·obtain⟨rfl,_⟩:=hd q L hL;exact⟨[],rfl⟩
theorem O0: ∀(l:List y8) (k:Nat) (T:aQ),eP k T→eP (k+l.length) (l.foldl doT T)
 |[],_,_,h=>h
 |x::l,k,T,h=>by
  have:=O0 l (k+1) (doT T x) (h.doI x)
  rw[List.length_cons,List.foldl_cons]
  exact this.weak (by omega)
theorem X4 {l:List y8}(hl:qbz l)(i:Nat)(hi:i≤l.length):Tc (sJ (l.take i)):=by
 have h:=O0 (l.take i) 0 CE eP.qly
 have hle:(l.take i).length≤60:=by rw[List.length_take];have:=hl.1;omega
 exact h.good (by omega)
section
section
variable {H:aa}
theorem QM {k:IntKind}{sh:List Sh}{d:List D}(h:iP (.i k::sh) d): ∃n d',d = .i k n::d'∧(Lit.int k n).wf=true∧iP sh d':=by
 cases d with
 |nil=>simp[iP]at h
 |cons x d=>
  simp only[iP]at h
  cases x <;> simp only[okD]at h <;> first|exact h.1.elim|skip
  obtain⟨⟨rfl,h1⟩,h2⟩:=h
  exact⟨_,_,rfl,h1,h2⟩
theorem U8 {sh:List Sh}{d:List D}(h:iP (.s::sh) d): ∃x d',d = .s x::d'∧x.size≤reachBytes∧iP sh d':=by
 cases d with
 |nil=>simp[iP]at h
 |cons y d=>
  simp only[iP]at h
  cases y <;> simp only[okD]at h <;> first|exact h.1.elim|skip
  exact⟨_,_,rfl,h.1,h.2⟩
theorem E9 {d:List D}(h:iP [] d):d=[]:=by cases d <;> simp[iP]at h;rfl
theorem VX {by' size:Nat}{e sh:List Sh}{d:List D}(h:iP (.sl by' size e::sh) d): ∃x d',d=x::d'∧okD (.sl by' size e) x∧iP sh d':=by
 cases d with
 |nil=>simp[iP]at h
 |cons y d=>simp only[iP]at h;exact⟨y,d,rfl,h⟩
theorem jy.cons_inv {vs:List Value}{x:D}{ds:List D}(h:jy H vs (x::ds)): ∃v vs',vs=v::vs'∧QV H v x∧jy H vs' ds:=by
 cases vs with
 |nil=>have:=h.1;simp at this
 |cons v vs=>exact⟨v,vs,rfl,h.2 0 v x (by simp) (by simp),by simpa using h.1,fun j u e h1 h2=>h.2 (j+1) u e (by simpa using h1) (by simpa using h2)⟩
theorem jy.QN {vs:List Value}(h:jy H vs []):vs=[]:=by have:=h.1;simpa using this
theorem QV.VY {v:Value}{k:IntKind}{n:Int}(h:QV H v (.i k n)):v = .int k n:=by cases h;rfl
theorem QV.qbG {v:Value}{x:ByteArray}(h:QV H v (.s x)):v = .string x:=by cases h;rfl
theorem nP.cons_inv {a:Bool}{sh:List Sh}{r:List (Bool×List Sh)}{vs:List Value}{Hl:List (List D)}(h:nP H ((a,sh)::r) vs Hl):
 ∃v vs' d qh9,vs=v::vs'∧Hl=d::qh9∧xx H a v d∧iP sh d∧nP H r vs' qh9:=by
 match vs,Hl,h with
 |[],[],h=>exact h.elim
 |v::vs,[],h=>exact h.elim
 |[],_::_,h=>exact h.elim
 |v::vs,d::Hl,h=>exact⟨v,vs,d,Hl,rfl,rfl,h⟩
theorem nP.QN {vs:List Value}{Hl:List (List D)}(h:nP H [] vs Hl):vs=[]:=by
 match vs,Hl,h with
 |[],[],_=>rfl
 |_::_,_,h=>exact h.elim
 |[],_::_,h=>exact h.elim
theorem qia {k:IntKind}{v:Value}{d:List D}(h:xx H false v d)(ho:iP [.i k] d): ∃n,v = .int k n∧(Lit.int k n).wf=true:=by
 obtain⟨n,d',rfl,hw,h2⟩:=QM ho
 obtain rfl:=E9 h2
 obtain⟨u,us,e,h3,h4⟩:=jy.cons_inv h
 injection e with e1 e2
 subst e1
 exact⟨n,h3.VY,hw⟩
theorem jy.seg {vs:List Value}{ds:List D}(h:jy H vs ds)(k m:Nat):jy H ((vs.drop k).take m) ((ds.drop k).take m):=by
 refine⟨by simp[h.1],fun j v d h1 h2=> ?_⟩
 rw[List.getElem?_take]at h1 h2
 split at h1
 ·rename_i hj
  rw[if_pos hj]at h2
  rw[List.getElem?_drop]at h1 h2
  exact h.2 _ v d h1 h2
 ·cases h1
omit H in
theorem Tj: ∀(es:List (List D)) (size i:Nat),(∀d ∈ es,d.length=size)→∀hi:i<es.length,(es.flatten.drop (i*size)).take size=es[i]∧i*size+size≤es.flatten.length
 |[],_,i,_,hi=>by simp at hi
 |d::es,size,0,h,_=>by
  have:=h d (by simp)
  simp only[List.flatten_cons,Nat.zero_mul,List.drop_zero,List.getElem_cons_zero,List.length_append,Nat.zero_add]
  exact⟨by rw[←this,List.take_left],by omega⟩
 |d::es,size,i+1,h,hi=>by
  have h0:=h d (by simp)
  obtain⟨h1,h2⟩:=Tj es size i (fun x hx=>h x (by simp[hx])) (by simpa using hi)
  simp only[List.flatten_cons,List.getElem_cons_succ,List.length_append]
  have e:(i+1)*size=d.length+i*size:=by rw[h0,Nat.add_mul];omega
  refine⟨?_,by omega⟩
  rw[e,List.drop_append,List.drop_eq_nil_of_le (by omega),List.nil_append,Nat.add_sub_cancel_left]
  exact h1
theorem qeP {by' size:Nat}{e:List Sh}{v:Value}{d:List D}(wf: ∀b,H.next≤b→H.get b=none)(h:xx H false v d)(ho:iP [.sl by' size e] d):
 ∃rows:List (List Value),Fs H size v rows∧rows.length*by'≤reachBytes∧rows.length≤maxLen∧∀r ∈ rows,∃ds,jy H r ds∧iP e ds:=by
 obtain⟨x,d',rfl,hx,h2⟩:=VX ho
 obtain rfl:=E9 h2
 obtain⟨u,us,eq,h3,h4⟩:=jy.cons_inv h
 injection eq with e1 e2
 subst e1
 cases h3 with
 |b x=>simp[okD]at hx
 |i k n=>simp[okD]at hx
 |s x=>simp[okD]at hx
 |nil=>exact⟨[],⟨none,0,rfl,fun h=>absurd rfl h⟩,by simp,by simp,by simp⟩
 |z id o=>exact⟨[],⟨_,0,rfl,fun h=>absurd rfl h⟩,by simp,by simp,by simp⟩
 |sl id len es vs hne qbS hget hvl qdx=>
  simp only[okD]at hx
  obtain⟨hle,hby,hmax,hes⟩:=hx
  have hR:jy H vs es.flatten:=⟨hvl,qdx⟩
  have hrow: ∀i,i<len→(((List.range len).map fun i=>(vs.drop (i*size)).take size)[i]? =some ((vs.drop (i*size)).take size)):=by
   intro i hi;simp[hi]
  have hseg:=fun i (hi:i<es.length)=>Tj es size i (fun d hd=>(hes d hd).1) hi
  refine⟨(List.range len).map fun i=>(vs.drop (i*size)).take size,⟨some ⟨id,0,none⟩,es.length,by simp,fun _=>⟨id,0,vs,true,rfl,?_,hget,?_⟩⟩,?_,by simp;omega,?_⟩
  ·rcases Nat.lt_or_ge id H.next with h|h
   ·exact h
   ·rw[wf id h]at hget;cases hget
  ·intro i r hr
   have hi:i<len:=by have:=(List.getElem?_eq_some_iff.1 hr).1;simpa using this
   rw[hrow i hi]at hr
   injection hr with hr
   subst hr
   have h5:=(hseg i (by omega)).2
   refine⟨by simp;omega,by simp,by omega⟩
  ·simp only[List.length_map,List.length_range]
   exact Nat.le_trans (Nat.mul_le_mul_right _ hle) hby
  ·intro r hr
   simp only[List.mem_map,List.mem_range]at hr
   obtain⟨i,hi,rfl⟩:=hr
   have hs:=hR.seg (i*size) size
   rw[(hseg i (by omega)).1]at hs
   exact⟨_,hs,(hes _ (List.getElem_mem _)).2⟩
end
end
section
section
variable {H:aa}
theorem qbH {n:Int}(h:(Lit.int .i64 n).wf=true):okI n:=by
 have:IntKind.i64.min≤n∧n≤9223372036854775807:=by simpa[Lit.wf]using h
 have e:IntKind.i64.min = -9223372036854775808:=rfl
 rw[e]at this
 exact⟨by omega,by omega⟩
theorem Tk {α:Type}{f:α→List Value}{P:α→Prop}: ∀{rows:List (List Value)},(∀r ∈ rows,∃a,r=f a∧P a)→∃l:List α,rows=l.map f∧∀a ∈ l,P a
 |[],_=>⟨[],rfl,by simp⟩
 |r::rows,h=>by
  obtain⟨a,rfl,pa⟩:=h r (by simp)
  obtain⟨l,rfl,pl⟩:=Tk (rows:=rows) fun x hx=>h x (by simp[hx])
  refine⟨a::l,rfl,fun b hb=> ?_⟩
  rcases List.mem_cons.1 hb with rfl|hb
  ·exact pa
  ·exact pl b hb
theorem qc8 {v:Value}{by' size:Nat}{e:List Sh}{x:D}(h:QV H v x)(hx:okD (.sl by' size e) x): ∃a n cap,v = .slice a n cap∧(a=none∨∃b o,a=some ⟨b,o,none⟩)∧cap<dQ∧n≤cap:=by
 cases h with
 |b x=>simp[okD]at hx
 |i k n=>simp[okD]at hx
 |s x=>simp[okD]at hx
 |nil=>exact⟨_,_,_,rfl,.inl rfl,by unfold dQ;omega,Nat.le_refl _⟩
 |z id o=>exact⟨_,_,_,rfl,.inr ⟨_,_,rfl⟩,by unfold dQ;omega,Nat.le_refl _⟩
 |sl id len es vs hne qbS hget hvl qdx=>
  simp only[okD]at hx
  exact⟨_,_,_,rfl,.inr ⟨_,_,rfl⟩,qbS,hx.1⟩
theorem qib {r:List Value}{d:List D}(h:jy H r d)(ho:iP [.i .i64,.i .i64,.i .i64,.s,.s,.s] d): ∃v,r=iM v∧v.fit:=by
 obtain⟨x1,d',rfl,w1,ho⟩:=QM ho
 obtain⟨x2,d',rfl,w2,ho⟩:=QM ho
 obtain⟨x3,d',rfl,w3,ho⟩:=QM ho
 obtain⟨t1,d',rfl,w4,ho⟩:=U8 ho
 obtain⟨t2,d',rfl,w5,ho⟩:=U8 ho
 obtain⟨t3,d',rfl,w6,ho⟩:=U8 ho
 obtain rfl:=E9 ho
 obtain⟨u1,us1,rfl,r1,h⟩:=h.cons_inv
 obtain⟨u2,us2,rfl,r2,h⟩:=h.cons_inv
 obtain⟨u3,us3,rfl,r3,h⟩:=h.cons_inv
 obtain⟨u4,us4,rfl,r4,h⟩:=h.cons_inv
 obtain⟨u5,us5,rfl,r5,h⟩:=h.cons_inv
 obtain⟨u6,us6,rfl,r6,h⟩:=h.cons_inv
 obtain rfl:=h.QN
 obtain rfl:=r1.VY
 obtain rfl:=r2.VY
 obtain rfl:=r3.VY
 obtain rfl:=r4.qbG
 obtain rfl:=r5.qbG
 obtain rfl:=r6.qbG
 exact⟨⟨x1,x2,x3,t1.data.toList,t2.data.toList,t3.data.toList⟩,rfl,qbH w2,qbH w3⟩
theorem qc9 {v:Value}{d:List D}(wf: ∀b,H.next≤b→H.get b=none)(h:xx H false v d)(ho:iP [.sl 72 6 [.i .i64,.i .i64,.i .i64,.s,.s,.s]] d): ∃l:List y8,Cq H 6 v (l.map iM)∧∀x ∈ l,x.fit:=by
 obtain⟨rows,s0,_,_,r0⟩:=qeP wf h ho
 obtain⟨l,rfl,hl⟩:=Tk (f:=iM) (P:=y8.fit) fun r hr=>by obtain⟨ds,q1,q2⟩:=r0 r hr;exact qib q1 q2
 obtain⟨x,d',rfl,hx,h2⟩:=VX ho
 obtain rfl:=E9 h2
 obtain⟨u,us,e,h3,h4⟩:=jy.cons_inv h
 injection e with e1 e2
 subst e1
 obtain⟨a,n,cap,rfl,ha,hc1,hc2⟩:=qc8 h3 hx
 have s0':=s0
 obtain⟨a',cap',e',_⟩:=s0'
 simp only[Value.slice.injEq]at e'
 obtain⟨rfl,rfl,rfl⟩:=e'
 exact⟨l,⟨s0,_,_,rfl,ha,.inl ⟨hc1,hc2⟩⟩,hl⟩
end
end
end Go.Proofs.YtofpmkhcbijilaaGreatDoorI
