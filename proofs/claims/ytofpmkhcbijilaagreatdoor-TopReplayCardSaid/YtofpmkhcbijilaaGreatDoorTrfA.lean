/- A tree: Unlink. / A tree: add (under way). / A tree: add (its contract; under way). / A tree: New, Mkdir, Create, Link. / A tree: Link. / A tree: Rename. / A tree: what Text lays of an inode. / A tree: Text. / A tree: an inode is read. / A tree: the walk of read. / A tree: how many names lead to eac -/
import Derived.Test.YtofpmkhcbijilaaGreatDoorTreL
import Derived.Test.YtofpmkhcbijilaaGreatDoorSlW
namespace Go.Proofs.YtofpmkhcbijilaaGreatDoorI
open Go
set_option linter.unusedSimpArgs false
set_option linter.unusedVariables false
section
attribute [local simp] J0 J1 J2 J3 J4 J5 J6 J7 J8 J9 Ja Jb Jc Jd Je Jf Jg Jh Ji Jj Jk Jl Jm Jn Jo Jp Jq Jr Js Jt Ju Jv Jw Jx Jy Jz JA JB JC JD JE JF JG JH JI JJ JK JL JM JN JO JP JQ JR JS bE bO.kind JT JU JV JW JX JY JZ Y0 Y1 Y2 Y3 Y4 Y5 Y6 Y7 Y8 Y9 Ya Yb Yc Yd Ye Yf Yg Yh Yi Yj Yk Yl Ym Yn Yo Yp Yq j3 Yr Ys Yt Yu Yv Yw Yx Yy gy di dI Yz YA YB YC YD YE fq YF YG YH YI YJ YK YL YM YN YO YP YQ YR YS YT YU sP bS kF qm bZ putAt aa.aj aa.aT aa.aK YV YW YX YY YZ B0 B1 B2 B3 B4 B5 B6 B7 B8 B9 Ba Bb Bc Bd Be Bf Bg Bh Bi Bj Bk Bl Bm Bn Bo Bp
section
def yU (T:aQ)(s:List UInt8):aQ×Int:=if ¬ (aR T s).2=0 then (T,(aR T s).2)else match dS T (aR T s).1 with
 |none=>(T,12)
 |some y=>match (cK T s).1 with
  |none=>(T,0)
  |some (m,x)=>match aS T m with
   |none=>(T,0)
   |some M=>if y.2-1=0 then ({(T.lu m (jb M x).1).put (aR T s).1 none with total:=T.total-(y.1.length:Nat)},0)
    else ((T.lu m (jb M x).1).put (aR T s).1 (some (((T.l (aR T s).1).elim 0 (·.1)),.file y.1 (y.2-1))),0)
theorem UQ {T:aQ}{m n:Nat}{M L:List aP}(h:aS T m=some M):dS (T.lu m L) n=dS T n:=by
 obtain⟨g,hg⟩:=jq h
 unfold aQ.lu
 rw[hg]
 unfold dS aQ.put
 by_cases hn:n=m
 ·subst hn;simp[hg]
 ·simp only[if_neg hn]
theorem qeC {T:aQ}{m n:Nat}{M L:List aP}(h:aS T m=some M)(hn:n≠m):(T.lu m L).l n=T.l n:=by
 obtain⟨g,hg⟩:=jq h
 unfold aQ.lu
 rw[hg]
 simp only[aQ.put,if_neg hn]
theorem qbb {T:aQ}{m:Nat}{L:List aP}:(T.lu m L).total=T.total:=by
 unfold aQ.lu;split <;> rfl
theorem gu.file' {F D:TypeId}{w:nu}{a:Nat→Nat}{H H':aa}{p n:Nat}{T:aQ}{s t:List UInt8}{k j g:Int}(h:gu F D w a H p T)(hx:T.l n=some (g,.file s k))(hn:H'.next=H.next)(ho: ∀b,b≠a n→H'.get b=H.get b)
 (hg:H'.get (a n)=some (.cells [ak t,.int .i64 j] false)):Mv w w H H'∧gu F D w a H' p (T.put n (some (g,.file t j))):=by
 obtain⟨f1,f2,f3⟩:=h.node n _ hx
 have hne:p≠a n:=fun e=>by rw[←e,h.own]at f2;omega
 refine⟨⟨by rw[hn];exact Nat.le_refl _,fun b hb h0=>ho b fun e=>by rw[e,f2]at h0;omega,fun _ _ h=>h⟩,?_⟩
 have hcell:aN F D a (T.put n (some (g,.file t j)))=aN F D a T:=by
  refine Cw (fun m=> ?_) rfl rfl
  unfold ku dH aQ.put
  by_cases hm:m=n
  ·subst hm;simp only[if_pos,hx];exact⟨rfl,rfl⟩
  ·simp only[if_neg hm];exact⟨trivial,trivial⟩
 refine h.store hn (by rw[ho p hne,h.get,hcell]) (fun m x hx'=> ?_) fun m x hx'=> ?_
 ·by_cases hm:m=n
  ·subst hm
   simp only[aQ.put,if_pos]at hx'
   injection hx' with hx';subst hx'
   exact⟨by rw[hn];exact f1,f2,hg⟩
  ·simp only[aQ.put,if_neg hm]at hx'
   exact(h.node m x hx').same hn (fun b e=>ho b fun e'=>by rw[e',f2]at e;omega) h.new
 ·by_cases hm:m=n
  ·subst hm;exact h.far m _ hx
  ·simp only[aQ.put,if_neg hm]at hx';exact h.far m x hx'
section
variable (c:Ctx) (hc:dP c) (hP:dD c) (hD:bI c) (hX:jP c) (hN:kE c) (hTy:c.Ty 14≠c.Ty 13) {H:aa} {K:Value→aa→Prop} {w:nu} {a:Nat→Nat} {p:Nat} {T:aQ}
include hc hP hD hX hN hTy in
theorem UR {s:List UInt8}(h:gu (c.Ty 14) (c.Ty 13) w a H p T)(hT:T.ok)(hs:s.length≤1000000)
 (hK: ∀w' H',Mv w w' H H'→gu (c.Ty 14) (c.Ty 13) w' a H' p (yU T s).1→K (.int .i64 (yU T s).2) H'):
 c.C (c.F Cg) [.pointer (some ⟨p,0,none⟩),ak s] H K:=by
 refine c.enter hc.Gs rfl ?_
 unfold yU at hK
 simp -implicitDefEqProofs [lU]
 refine ai (rE c hc hP hD hX hN hTy h hT hs fun H1 k1=> ?_)
 by_cases h0:(aR T s).2=0
 ·have h0': ¬ ¬ (aR T s).2=0:=fun e=>e h0
  simp only[if_neg h0']at hK
  have hlt:=pM hT s
  simp -implicitDefEqProofs [h0]
  refine ai (xV c hc hTy (h.le k1) hlt ?_)
  cases hf:dS T (aR T s).1 with
  |none=>
   simp only[hf]at hK
   simp only[Option.isSome_none,IR]
   simp -implicitDefEqProofs [aU]
   exact hK _ _ (k1.mv w) (h.le k1)
  |some y=>
   obtain⟨t,k⟩:=y
   have h1:(aR T s).1≠1:=fun e=>by
    obtain⟨L,hL⟩:=hT.root
    obtain⟨g,hg⟩:=sD hf
    obtain⟨g',hg'⟩:=jq hL
    rw[e,hg']at hg;cases hg
   obtain⟨m,x,M,e1,e2,e3,e4⟩:=qG h0 h1
   simp only[hf,e1,e2]at hK
   simp only[Option.isSome_some,IR]
   simp -implicitDefEqProofs [aU]
   refine ai (oP c hc hP hD hX hN hTy (h.le k1) hT hs fun H3 k3=> ?_)
   rw[e1]
   simp -implicitDefEqProofs [sj]
   have k4:H.le H3:=k1.trans k3
   refine ai (QD c hD (h.le (aa.le.trans k4 ?_)) e2 (by have:=(hT.dir m M e2).1;omega) fun w' H5 m5 i5=> ?_)
   ·(repeat' first|exact aa.le_refl _|assumption|apply aa.le.alloc|(refine aa.le.set ?_ (by(try simp only[YX,YY]);omega) _)|(refine aa.le.trans ?_ (by assumption)))
   generalize (aR T s).1=n at *
   have hf5:dS (T.lu m (jb M x).1) n=some (t,k):=by rw[UQ e2];exact hf
   have hnm:n≠m:=fun e=>by
    obtain⟨g,hg⟩:=sD hf
    obtain⟨g',hg'⟩:=jq e2
    rw[e,hg']at hg;cases hg
   obtain⟨g,hl⟩:=sD hf
   simp only[]at hl
   have hl5:(T.lu m (jb M x).1).l n=some (g,.file t k):=by rw[qeC e2 hnm];exact hl
   obtain⟨f1,f2,f3⟩:=i5.file hf5
   simp only[]at f3
   have hkb:=(hT.file n t k hf).2
   have w1:IntKind.i64.wrap (k-1)=k-1:=wrap64 (by omega) (by omega)
   obtain⟨m6,i6⟩:=i5.file' (t:=t) (j:=k-1) (H':=H5.set (a n) (.cells [ak t,.int .i64 (k-1)] false)) hl5 (by simp only[YY]) (fun b hb=>by simp[YW,hb]) (by simp[YW])
   obtain⟨Y,hY⟩: ∃Y,Y=H5.set (a n) (.cells [ak t,.int .i64 (k-1)] false):=⟨_,rfl⟩
   rw[←hY]at m6 i6
   have gY:Y.get (a n)=some (.cells [ak t,.int .i64 (k-1)] false):=by rw[hY];simp[YW]
   have kk:H.le H3:=k4
   by_cases hk0:k-1=0
   ·simp only[if_pos hk0]at hK
    have w0:IntKind.i64.wrap 0=0:=wrap64 (by omega) (by omega)
    rw[hk0]at hY gY
    generalize hT6:(T.lu m (jb M x).1).put n (some (g,oN.file t (k-1)))=T6 at i6
    have ht6:T6.total=T.total:=by rw[←hT6];exact qbb
    have ht:=(hT.file n t k hf).1
    have htot:=hT.tot
    have w2:IntKind.i64.wrap (T.total-(t.length:Int))=T.total-(t.length:Int):=wrap64 (by omega) (by omega)
    have hg:=i6.get
    have hne: ¬ a n=p:=fun e=>by rw[e,i5.own]at f2;omega
    have hlen:=aX (c.Ty 14) (c.Ty 13) a T6
    have IU:=yS (F:=c.Ty 14) (D:=c.Ty 13) (a:=a) (T:=T6)
    rw[ht6]at IU
    have MI:(aN (c.Ty 14) (c.Ty 13) a T6)[513]'(by rw[hlen];omega) = .int .i64 T.total:=by
     have:=IU;rw[List.getElem?_eq_getElem (by rw[hlen];omega)]at this;exact Option.some.inj this
    have hp:=xW (F:=c.Ty 14) (D:=c.Ty 13) (a:=a) (T:=T6) (T.total-(t.length:Int))
    have hp1:List.take 513 (aN (c.Ty 14) (c.Ty 13) a T6)++Value.int IntKind.i64 (T.total-(t.length:Int))::List.drop 514 (aN (c.Ty 14) (c.Ty 13) a T6)=aN (c.Ty 14) (c.Ty 13) a {T6 with total:=T.total-(t.length:Int)}:=by
     rw[←hp];simp[putAt]
    have i7:gu (c.Ty 14) (c.Ty 13) w' a (Y.set p (.cells (aN (c.Ty 14) (c.Ty 13) a {T6 with total:=T.total-(t.length:Int)}) false)) p {T6 with total:=T.total-(t.length:Int)}:=
     i6.store (by simp only[YY]) (by simp[YW]) (fun q z hz=>(i6.node q z hz).same (by simp only[YY]) (fun b e=>by
       have e2: ¬ b=p:=fun e'=>by rw[e',i6.own]at e;omega
       simp[YW,e2]) i6.new) i6.far
    have m7:Mv w' w' Y (Y.set p (.cells (aN (c.Ty 14) (c.Ty 13) a {T6 with total:=T.total-(t.length:Int)}) false)):=
     ⟨by simp only[YY];exact Nat.le_refl _,fun b _ h0=>by
       have e2: ¬ b=p:=fun e'=>by rw[e',i6.own]at h0;omega
       simp[YW,e2],fun _ _ h=>h⟩
    generalize hT7:({T6 with total:=T.total-(t.length:Int)}:aQ)=T7 at *
    have qdt:=aX (c.Ty 14) (c.Ty 13) a T7
    have NM:(n:Int)<256:=by omega
    have hn2:n*2+2≤514:=by omega
    have hp2:List.take (n*2) (aN (c.Ty 14) (c.Ty 13) a T7)++Value.int IntKind.i64 0::Value.nilIface::List.drop (n*2+2) (aN (c.Ty 14) (c.Ty 13) a T7)=aN (c.Ty 14) (c.Ty 13) a (T7.put n none):=by
     have:=OL (F:=c.Ty 14) (D:=c.Ty 13) (a:=a) (T:=T7) hlt
     unfold putAt at this
     simp only[List.length_cons,List.length_nil]at this
     rw[←this];simp
    obtain⟨m8,i8⟩:=i7.drop (n:=n) (H':=(Y.set p (.cells (aN (c.Ty 14) (c.Ty 13) a T7) false)).set p (.cells (aN (c.Ty 14) (c.Ty 13) a (T7.put n none)) false)) (by simp only[YY]) (fun b hb=>by simp[YW,hb]) (by simp[YW])
    have hT8:T7.put n none={(T.lu m (jb M x).1).put n none with total:=T.total-(t.length:Int)}:=by
     rw[←hT7,←hT6]
     simp only[aQ.put,aQ.mk.injEq,true_and,and_true]
     funext q
     by_cases hq:q=n
     ·rw[if_pos hq,if_pos hq]
     ·rw[if_neg hq,if_neg hq,if_neg hq]
    rw[hT8]at i8 m8 hp2
    simp -implicitDefEqProofs [f3,w1,w0,hk0,←hY,gY,hg,hne,IU,MI,hlen,w2,hp1,qdt,NM,hlt,hn2,hp2]
    have hsz:(ByteArray.mk t.toArray).size=t.length:=by simp[ByteArray.size]
    simp -implicitDefEqProofs [ak,hsz,gY,hg,hne,IU,MI,hlen,w2,hp1,qdt,NM,hlt,hn2,hp2]
    refine hK _ _ ((aa.le.mv (aa.le.trans k4 ?_) w).trans (m5.trans (m6.trans (m7.trans m8)))) i8
    (repeat' first|exact aa.le_refl _|assumption|apply aa.le.alloc|(refine aa.le.set ?_ (by(try simp only[YX,YY]);omega) _)|(refine aa.le.trans ?_ (by assumption)))
   ·simp only[if_neg hk0,hl,Option.elim_some]at hK
    simp -implicitDefEqProofs [f3,w1,hk0,←hY,gY]
    refine hK _ _ ((aa.le.mv (aa.le.trans k4 ?_) w).trans (m5.trans m6)) i6
    (repeat' first|exact aa.le_refl _|assumption|apply aa.le.alloc|(refine aa.le.set ?_ (by(try simp only[YX,YY]);omega) _)|(refine aa.le.trans ?_ (by assumption)))
 ·simp only[if_pos h0]at hK
  simp -implicitDefEqProofs [h0]
  exact hK _ _ (k1.mv w) (h.le k1)
end
end
end
theorem vQ {T:aQ}{s:List UInt8}(h:(cK T s).1=none): ¬ (cK T s).2=0:=by
 unfold cK at h ⊢
 split
 ·decide
 ·rename_i l hl
  rw[hl]at h
  simp only[]at h
  split
  ·decide
  ·rename_i x hx
   rw[hx]at h
   simp only[]at h
   by_cases h0:(eO T l.dropLast 1).2≠0
   ·rw[if_pos h0];exact h0
   ·rw[if_neg h0]at h ⊢
    split
    ·decide
    ·rename_i L hd
     rw[hd]at h;cases h
theorem qE {T:aQ}{s x:List UInt8}{m:Nat}(h:(cK T s).1=some (m,x)):(cK T s).2=0∧∃L,aS T m=some L:=by
 unfold cK at h ⊢
 split
 ·rename_i hl;rw[hl]at h;cases h
 ·rename_i l hl
  rw[hl]at h
  simp only[]at h
  split
  ·rename_i hx;rw[hx]at h;cases h
  ·rename_i y hx
   rw[hx]at h
   simp only[]at h
   by_cases h0:(eO T l.dropLast 1).2≠0
   ·rw[if_pos h0]at h;cases h
   ·rw[if_neg h0]at h ⊢
    split
    ·rename_i hd;rw[hd]at h;cases h
    ·rename_i L hd
     rw[hd]at h
     simp only[Option.some.injEq,Prod.mk.injEq]at h
     exact⟨rfl,L,by rw[←h.1];exact hd⟩
def UT (T:aQ)(s:List UInt8)(d:oN):aQ×Int:=match (cK T s).1 with
 |none=>(T,(cK T s).2)
 |some (m,x)=>match aS T m with
  |none=>(T,0)
  |some M=>if (bF M x).2=0 then (T,6)else if su T=0 then (T,5)else
   ((aQ.lu {T.put (su T) (some (T.gen+1,d))with gen:=T.gen+1} m (jc M x (su T)).1),0)
section
attribute [local simp] J0 J1 J2 J3 J4 J5 J6 J7 J8 J9 Ja Jb Jc Jd Je Jf Jg Jh Ji Jj Jk Jl Jm Jn Jo Jp Jq Jr Js Jt Ju Jv Jw Jx Jy Jz JA JB JC JD JE JF JG JH JI JJ JK JL JM JN JO JP JQ JR JS bE bO.kind JT JU JV JW JX JY JZ Y0 Y1 Y2 Y3 Y4 Y5 Y6 Y7 Y8 Y9 Ya Yb Yc Yd Ye Yf Yg Yh Yi Yj Yk Yl Ym Yn Yo Yp Yq j3 Yr Ys Yt Yu Yv Yw Yx Yy gy di dI Yz YA YB YC YD YE fq YF YG YH YI YJ YK YL YM YN YO YP YQ YR YS YT YU sP bS kF qm bZ putAt aa.aj aa.aT aa.aK YV YW YX YY YZ B0 B1 B2 B3 B4 B5 B6 B7 B8 B9 Ba Bb Bc Bd Be Bf Bg Bh Bi Bj Bk Bl Bm Bn Bo Bp
section
theorem yV {F D:TypeId}{x:Nat}{d:oN}:(Dp F D x d).cells = #[Dp F D x d]:=by cases d <;> rfl
theorem ET {F D:TypeId}{x:Nat}{d:oN}:fo (Dp F D x d)=true:=by cases d <;> rfl
theorem l6 {T:aQ}{s x:List UInt8}{m:Nat}(h:(cK T s).1=some (m,x)):lm x=true:=by
 unfold cK at h
 split at h
 ·cases h
 ·rename_i l hl
  split at h
  ·cases h
  ·rename_i y hy
   split at h
   ·cases h
   ·split at h
    ·cases h
    ·simp only[Option.some.injEq,Prod.mk.injEq]at h
     rw[←h.2]
     exact(uE hl).1 y (List.mem_of_getLast? hy)
theorem uH {s:List UInt8}(h:lm s=true):s.length≤28:=by
 unfold lm at h
 exact(of_decide_eq_true h).2.1
section
variable (c:Ctx) (hc:dP c) (hP:dD c) (hD:bI c) (hX:jP c) (CB:pJ c) (hI:kS c) (hN:kE c) (hTy:c.Ty 14≠c.Ty 13) {H:aa} {K:Value→aa→Prop} {w:nu} {a:Nat→Nat} {p:Nat} {T:aQ}
include hc hP hD hX CB hI hN hTy in
theorem VM {s:List UInt8}{lo hi x:Nat}{d:oN}{H0:aa}(h00:H0.le H)(hlo:H0.next=lo)(h:gu (c.Ty 14) (c.Ty 13) w a H p T)(hT:T.ok)(hF:qi w H lo hi x d)(hg1:0≤T.gen)(hg2:T.gen≤1000000)(hs:s.length≤1000000)
 (hK: ∀w' a' H',Mv w w' H0 H'→gu (c.Ty 14) (c.Ty 13) w' a' H' p (UT T s d).1→K (.int .i64 (UT T s d).2) H'):
 c.C (c.F Iw) [.pointer (some ⟨p,0,none⟩),ak s,Dp (c.Ty 14) (c.Ty 13) x d] H K:=by
 refine c.enter hc.NA rfl ?_
 unfold UT at hK
 simp -implicitDefEqProofs [qd]
 refine ai (oP c hc hP hD hX hN hTy h hT hs fun H1 k1=> ?_)
 have hle:H1.le ((H1.alloc (.cells [.pointer none,.string ⟨#[]⟩] false)).set H1.next (.cells [.pointer none,.string ⟨#[]⟩] false)):=(H1.ax _).set (Nat.le_refl _) _
 cases hp:(cK T s).1 with
 |none=>
  have h0:=vQ hp
  simp only[hp]at hK
  simp -implicitDefEqProofs [sj,ak,h0]
  refine hK w a _ (aa.le.mv (aa.le.trans (aa.le.trans h00 k1) ?_) w) (h.le (aa.le.trans k1 ?_))
  ·(repeat' first|exact aa.le_refl _|assumption|apply aa.le.alloc|(refine aa.le.set ?_ (by(try simp only[YX,YY]);omega) _)|(refine aa.le.trans ?_ (by assumption)))
  ·(repeat' first|exact aa.le_refl _|assumption|apply aa.le.alloc|(refine aa.le.set ?_ (by(try simp only[YX,YY]);omega) _)|(refine aa.le.trans ?_ (by assumption)))
 |some y=>
  obtain⟨m,z⟩:=y
  obtain⟨h0,M,hM⟩:=qE hp
  simp only[hp,hM]at hK
  simp -implicitDefEqProofs [sj,h0]
  have hL:=(hT.dir m M hM).1
  have hz1:=uH (l6 hp)
  have kz:H.le ((H1.alloc (.cells [.pointer none,.string ⟨#[]⟩] false)).set H1.next (.cells [.pointer (some ⟨a m,0,none⟩),ak z] false)):=k1.trans ((H1.ax _).set (Nat.le_refl _) _)
  refine ai (GH c hc hD (h.le kz) hM (s:=z) (by omega) fun H2 k2=> ?_)
  have k3:=kz.trans k2
  by_cases hl:(bF M z).2=0
  ·simp only[if_pos hl]at hK
   simp -implicitDefEqProofs [hl]
   exact hK w a _ ((h00.trans k3).mv w) (h.le k3)
  ·simp only[if_neg hl]at hK
   simp -implicitDefEqProofs [hl]
   refine ai (qa5 c hc (h.le k3) ?_)
   by_cases hf:su T=0
   ·simp only[if_pos hf]at hK
    simp -implicitDefEqProofs [hf]
    exact hK w a _ ((h00.trans k3).mv w) (h.le k3)
   ·simp only[if_neg hf]at hK
    obtain⟨n2,n256,nn⟩:=SI hf
    generalize su T=n at *
    have i2:=h.le k3
    have F2:=hF.le k3
    have hg:=i2.get
    have NM:(n:Int)<256:=by omega
    have qln: ¬ (n:Int)=0:=by omega
    have w1:IntKind.i64.wrap (T.gen+1)=T.gen+1:=wrap64 (by omega) (by omega)
    have hlen:=aX (c.Ty 14) (c.Ty 13) a T
    have IV:=uG (F:=c.Ty 14) (D:=c.Ty 13) (a:=a) (T:=T)
    have ML:(aN (c.Ty 14) (c.Ty 13) a T)[512]'(by rw[hlen];omega) = .int .i64 T.gen:=by
     have:=IV;rw[List.getElem?_eq_getElem (by rw[hlen];omega)]at this;exact Option.some.inj this
    have hp1:List.take 512 (aN (c.Ty 14) (c.Ty 13) a T)++Value.int IntKind.i64 (T.gen+1)::List.drop 513 (aN (c.Ty 14) (c.Ty 13) a T)=aN (c.Ty 14) (c.Ty 13) a {T with gen:=T.gen+1}:=by
     refine Eq.trans ?_ (MK (T.gen+1))
     simp[putAt]
    generalize hT1:({T with gen:=T.gen+1}:aQ)=T1 at *
    have g1:T1.gen=T.gen+1:=by rw[←hT1]
    have hlen1:=aX (c.Ty 14) (c.Ty 13) a T1
    have qeD:=uG (F:=c.Ty 14) (D:=c.Ty 13) (a:=a) (T:=T1)
    rw[g1]at qeD
    have qhT:(aN (c.Ty 14) (c.Ty 13) a T1)[512]'(by rw[hlen1];omega) = .int .i64 (T.gen+1):=by
     have:=qeD;rw[List.getElem?_eq_getElem (by rw[hlen1];omega)]at this;exact Option.some.inj this
    have qhU:n*2+2≤514:=by omega
    simp -implicitDefEqProofs [hf,qln,hg,IV,ML,hlen,w1,hp1,qeD,qhT,qhU,yV,ET,NM,n256,hlen1]
    have n2':=k2.next
    simp only[YX,YY]at n2'
    have n1':=k1.next
    have e1: ¬ H1.next=p:=by have:=h.lt;omega
    have g2:H2.get H1.next=some (.cells [.pointer (some ⟨a m,0,none⟩),ak z] false):=by
     rw[k2.get H1.next (by simp only[YX,YY];omega)];simp[YW]
    have hmn:m≠n:=fun e=>by
     obtain⟨g,hg⟩:=jq hM
     rw[e,nn]at hg;cases hg
    have hp2:List.take (n*2) (aN (c.Ty 14) (c.Ty 13) a T1)++Value.int IntKind.i64 (T.gen+1)::Dp (c.Ty 14) (c.Ty 13) x d::List.drop (n*2+2) (aN (c.Ty 14) (c.Ty 13) a T1)=aN (c.Ty 14) (c.Ty 13) (fun q=>if q=n then x else a q) (T1.put n (some (T.gen+1,d))):=by
     refine Eq.trans ?_ (GI (g:=T.gen+1) n256)
     simp[putAt]
    have hT2:T1.put n (some (T.gen+1,d))={T.put n (some (T.gen+1,d))with gen:=T.gen+1}:=by rw[←hT1];rfl
    rw[hT2]at hp2
    have i3:=i2.add (g:=T.gen+1) (H':=(H2.set p (.cells (aN (c.Ty 14) (c.Ty 13) a T1) false)).set p (.cells (aN (c.Ty 14) (c.Ty 13) (fun q=>if q=n then x else a q) {T.put n (some (T.gen+1,d))with gen:=T.gen+1}) false)) F2 nn (by omega) n256 (by simp only[YY]) (fun b hb=>by simp[YW,hb]) (by simp[YW])
    obtain⟨Z,hZ⟩: ∃Z,Z=(H2.set p (.cells (aN (c.Ty 14) (c.Ty 13) a T1) false)).set p (.cells (aN (c.Ty 14) (c.Ty 13) (fun q=>if q=n then x else a q) {T.put n (some (T.gen+1,d))with gen:=T.gen+1}) false):=⟨_,rfl⟩
    rw[←hZ]at i3
    have gZ:Z.get H1.next=some (.cells [.pointer (some ⟨a m,0,none⟩),ak z] false):=by rw[hZ];simp[YW,e1,g2]
    have IW:=h00.trans k3
    have m3:Mv w (dZ w lo hi (n+2)) H0 Z:=by
     refine⟨by rw[hZ];simp only[YY];exact IW.next,fun b hb hb0=> ?_,fun b hb hb0=> ?_⟩
     ·have e2: ¬ b=p:=fun e=>by rw[e,h.own]at hb0;omega
      rw[hZ,←IW.get b hb];simp[YW,e2]
     ·unfold dZ;rw[if_pos (by omega)];exact hb0
    have hM2:aS {T.put n (some (T.gen+1,d))with gen:=T.gen+1} m=some M:=by
     unfold aS at hM ⊢
     simp only[aQ.put,if_neg hmn];exact hM
    simp -implicitDefEqProofs [e1,g2,hp2,←hZ,gZ,hmn]
    obtain⟨a',ha'⟩: ∃a':Nat→Nat,a'=fun q=>if q=n then x else a q:=⟨_,rfl⟩
    rw[←ha']at i3
    have am:a m=a' m:=by rw[ha'];simp only[if_neg hmn]
    rw[am]
    refine ai (QC c hD CB hI i3 hM2 (s:=z) (ino:=n) (by omega) (by omega) fun w4 H4 m4 i4=> ?_)
    simp -implicitDefEqProofs []
    exact hK _ _ _ (m3.trans m4) i4
end
end
section
def T0:aQ:=⟨0,0,fun _=>none⟩
def CE:aQ:=T0.put 1 (some (0,.dir []))
theorem qbc (F D:TypeId)(a:Nat→Nat):trZ=aN F D a T0:=by
 have h: ∀n,(List.replicate n [Value.int .i64 0,.nilIface]).flatten=(List.range (2*n)).map fun i=>if i % 2=0 then Value.int .i64 0 else .nilIface:=by
  intro n
  induction n with
  |zero=>rfl
  |succ n ih=>
   rw[List.replicate_succ',List.flatten_append,ih,Nat.mul_succ,List.range_succ,List.range_succ,List.map_append,List.map_append,List.append_assoc]
   congr 1
   simp only[List.map_cons,List.map_nil,List.flatten_cons,List.flatten_nil,List.append_nil,List.cons_append,List.nil_append]
   rw[if_pos (by omega),if_neg (by omega)]
 have e0:List.range 514=List.range 512++[512,513]:=by rw[List.range_succ (n:=513),List.range_succ (n:=512),List.append_assoc];rfl
 unfold trZ aN
 rw[h,e0,List.map_append]
 have e:(List.range 512).map (fun i=>if i % 2=0 then Value.int .i64 0 else .nilIface)=(List.range 512).map (mi F D a T0):=List.map_congr_left fun i hi=>by
  have hi:i<512:=List.mem_range.1 hi
  unfold mi
  simp only[if_pos hi]
  rfl
 exact congrArg (· ++[Value.int .i64 0,.int .i64 0]) e
theorem qbd {F D:TypeId}{a:Nat→Nat}{T:aQ}{n x:Nat}{g:Int}{d:oN}(hn:n<256)(hg:ku T n = .int .i64 g):putAt (aN F D a T) (n*2+1) [Dp F D x d]=aN F D (fun m=>if m=n then x else a m) (T.put n (some (g,d))):=by
 rw[←GI hn]
 apply List.ext_getElem?
 intro i
 rw[jH (by rw[aX];simp;omega),jH (by rw[aX];simp;omega)]
 simp only[List.length_cons,List.length_nil]
 by_cases h1:i<n*2
 ·rw[if_pos (by omega),if_pos h1]
 ·rw[if_neg h1]
  by_cases h2:i=n*2
  ·subst h2;rw[if_pos (by omega),if_pos (by omega),GG hn,hg];simp
  ·rw[if_neg (by omega)]
   by_cases h3:i=n*2+1
   ·subst h3;rw[if_pos (by omega),if_pos (by omega)];simp
   ·rw[if_neg (by omega),if_neg (by omega)]
theorem qbe:ak [] = .string ⟨#[]⟩:=rfl
section
variable (c:Ctx) (hc:dP c) (hP:dD c) (hD:bI c) (hX:jP c) (CB:pJ c) (hI:kS c) (hN:kE c) (hTy:c.Ty 14≠c.Ty 13) {H:aa} {K:Value→aa→Prop} {w:nu} {a:Nat→Nat} {p:Nat} {T:aQ}
include hc hD in
theorem qcT (hK: ∀w' a' H',H.le H'→(∀b,b<H.next→w' b=0)→gu (c.Ty 14) (c.Ty 13) w' a' H' H.next CE→K (.pointer (some ⟨H.next,0,none⟩)) H'):c.C (c.F UA) [] H K:=by
 refine c.enter hc.qaF rfl ?_
 obtain⟨X,hX0⟩: ∃X:aa,X=H.alloc (.cells trZ false):=⟨_,rfl⟩
 have gX:X.get H.next=some (.cells trZ false):=by rw[hX0];simp[YV]
 have nX:X.next=H.next+1:=by rw[hX0];rfl
 have kX:H.le X:=by rw[hX0];exact H.ax _
 simp -implicitDefEqProofs [Co,←hX0]
 refine qR c.mono (qdo c hD (S:=fun b=>b<X.next) (fun _ h=>h) fun H2 k2 n2 s2=> ?_)
 have g2:=(k2.get H.next (by omega)).trans gX
 have hz:trZ=aN (c.Ty 14) (c.Ty 13) (fun _=>X.next) T0:=qbc _ _ _
 rw[hz]at g2
 have hlen:=aX (c.Ty 14) (c.Ty 13) (fun _=>X.next) T0
 obtain⟨a',ha'⟩: ∃a':Nat→Nat,a'=fun m=>if m=1 then X.next else X.next:=⟨_,rfl⟩
 have hp:List.take 3 (aN (c.Ty 14) (c.Ty 13) (fun _=>X.next) T0)++Value.iface (c.Ty 13) (.agg #[.pointer (some ⟨X.next,0,none⟩)])::List.drop 4 (aN (c.Ty 14) (c.Ty 13) (fun _=>X.next) T0)=aN (c.Ty 14) (c.Ty 13) a' CE:=by
  rw[ha']
  refine Eq.trans ?_ (qbd (T:=T0) (g:=0) (d:=.dir []) (x:=X.next) (by omega:1<256) rfl)
  simp[putAt,Dp]
 simp -implicitDefEqProofs [g2,hlen,hp]
 obtain⟨w',hw'⟩: ∃w':nu,w'=fun b=>if b=H.next then 1 else if H.next<b∧b<H2.next then 3 else 0:=⟨_,rfl⟩
 have kk:H.le (H2.set H.next (.cells (aN (c.Ty 14) (c.Ty 13) a' CE) false)):=(kX.trans k2).set (Nat.le_refl _) _
 have a1:a' 1=X.next:=by rw[ha'];rfl
 refine hK w' a' _ kk (fun b hb=>by rw[hw'];simp only[];rw[if_neg (by omega),if_neg (by omega)]) ⟨by simp only[YY];omega,by rw[hw'];simp,by simp[YW],fun n x hx=> ?_,fun b hb=> ?_,fun n x hx=> ?_⟩
 ·by_cases hn:n=1
  ·subst hn
   simp only[CE,aQ.put,if_pos,Option.some.injEq]at hx
   subst hx
   rw[a1]
   have hS:nA w' H2 X.next 1 (.dir []):=ER s2 (fun b hb=>Classical.byContradiction fun e=>hb.2 (by rw[hw'];simp only[];rw[if_neg (by omega),if_pos (by omega)])) fun b hb=>hb.1
   refine hS.same (by simp only[YY]) (fun b e=> ?_) fun b hb=> ?_
   ·have hb: ¬ b=H.next:=fun e'=>by rw[hw',e']at e;simp at e
    simp[YW,hb]
   ·rw[hw'];simp only[];rw[if_neg (by omega),if_neg (by omega)]
  ·simp[CE,aQ.put,hn,T0]at hx
 ·simp only[YY]at hb
  rw[hw'];simp only[];rw[if_neg (by omega),if_neg (by omega)]
 ·by_cases hn:n=1
  ·omega
  ·simp[CE,aQ.put,hn,T0]at hx
def UU (T:aQ)(s:List UInt8):aQ×Int:=UT T s (.dir [])
def QE (T:aQ)(s:List UInt8):aQ×Int:=UT T s (.file [] 1)
include hc hP hD hX CB hI hN hTy in
theorem XF {s:List UInt8}(h:gu (c.Ty 14) (c.Ty 13) w a H p T)(hT:T.ok)(hg1:0≤T.gen)(hg2:T.gen≤1000000)(hs:s.length≤1000000)
 (hK: ∀w' a' H',Mv w w' H H'→gu (c.Ty 14) (c.Ty 13) w' a' H' p (UU T s).1→K (.int .i64 (UU T s).2) H'):
 c.C (c.F Et) [.pointer (some ⟨p,0,none⟩),ak s] H K:=by
 refine c.enter hc.IA rfl ?_
 simp -implicitDefEqProofs [mW]
 refine ai (qdo c hD (S:=fun b=>b<H.next) (fun _ h=>h) fun H2 k2 n2 s2=> ?_)
 have hF:qi w H2 H.next H2.next H.next (.dir []):=by
  refine⟨Nat.le_of_lt n2,Nat.le_refl _,h.new,fun n=>ER s2 (fun b hb=>Classical.byContradiction fun e=>hb.2 ?_) fun b hb=>hb.1⟩
  unfold dZ;rw[if_neg e,if_pos hb.1]
 simp -implicitDefEqProofs []
 refine ai (VM c hc hP hD hX CB hI hN hTy k2 rfl (h.le k2) hT hF hg1 hg2 hs fun w' a' H3 m3 i3=> ?_)
 simp -implicitDefEqProofs []
 exact hK _ _ _ m3 i3
include hc hP hD hX CB hI hN hTy in
theorem UW {s:List UInt8}(h:gu (c.Ty 14) (c.Ty 13) w a H p T)(hT:T.ok)(hg1:0≤T.gen)(hg2:T.gen≤1000000)(hs:s.length≤1000000)
 (hK: ∀w' a' H',Mv w w' H H'→gu (c.Ty 14) (c.Ty 13) w' a' H' p (QE T s).1→K (.int .i64 (QE T s).2) H'):
 c.C (c.F Cf) [.pointer (some ⟨p,0,none⟩),ak s] H K:=by
 refine c.enter hc.Gr rfl ?_
 obtain⟨X,hX0⟩: ∃X:aa,X=H.alloc (.cells [ak [],.int .i64 1] false):=⟨_,rfl⟩
 have hF:qi w X H.next (H.next+1) H.next (.file [] 1):=by rw[hX0];exact qi.file h.new
 have kX:H.le X:=by rw[hX0];exact H.ax _
 simp -implicitDefEqProofs [lT,←hX0,←qbe]
 refine ai (VM c hc hP hD hX CB hI hN hTy kX rfl (h.le kX) hT hF hg1 hg2 hs fun w' a' H3 m3 i3=> ?_)
 simp -implicitDefEqProofs []
 exact hK _ _ _ m3 i3
end
end
section
def OM (T:aQ)(s t:List UInt8):aQ×Int:=if ¬ (aR T s).2=0 then (T,(aR T s).2)else match (cK T t).1 with
 |none=>(T,(cK T t).2)
 |some (m,x)=>match dS T (aR T s).1 with
  |none=>(T,12)
  |some y=>match aS T m with
   |none=>(T,0)
   |some M=>if (bF M x).2=0 then (T,6)else if 100≤y.2 then (T,5)else
    (((T.put (aR T s).1 (some ((T.l (aR T s).1).elim 0 (·.1),.file y.1 (y.2+1)))).lu m (jc M x (aR T s).1).1),0)
section
variable (c:Ctx) (hc:dP c) (hP:dD c) (hD:bI c) (hX:jP c) (CB:pJ c) (hI:kS c) (hN:kE c) (hTy:c.Ty 14≠c.Ty 13) {H:aa} {K:Value→aa→Prop} {w:nu} {a:Nat→Nat} {p:Nat} {T:aQ}
include hc hP hD hX CB hI hN hTy in
theorem qbf {s t:List UInt8}(h:gu (c.Ty 14) (c.Ty 13) w a H p T)(hT:T.ok)(hs:s.length≤1000000)(ht:t.length≤1000000)
 (hK: ∀w' H',Mv w w' H H'→gu (c.Ty 14) (c.Ty 13) w' a H' p (OM T s t).1→K (.int .i64 (OM T s t).2) H'):
 c.C (c.F Ga) [.pointer (some ⟨p,0,none⟩),ak s,ak t] H K:=by
 refine c.enter hc.LU rfl ?_
 unfold OM at hK
 simp -implicitDefEqProofs [nU]
 refine ai (rE c hc hP hD hX hN hTy h hT hs fun H1 k1=> ?_)
 by_cases h0:(aR T s).2=0
 ·have h0': ¬ ¬ (aR T s).2=0:=fun e=>e h0
  simp only[if_neg h0']at hK
  have hlt:=pM hT s
  simp -implicitDefEqProofs [h0]
  refine ai (oP c hc hP hD hX hN hTy (h.le k1) hT ht fun H2 k2=> ?_)
  have k12:=k1.trans k2
  cases hp:(cK T t).1 with
  |none=>
   have hp0:=vQ hp
   simp only[hp]at hK
   simp -implicitDefEqProofs [sj,ak,hp0]
   refine hK w _ (aa.le.mv (aa.le.trans k12 ?_) w) (h.le (aa.le.trans k12 ?_))
   ·(repeat' first|exact aa.le_refl _|assumption|apply aa.le.alloc|(refine aa.le.set ?_ (by(try simp only[YX,YY]);omega) _)|(refine aa.le.trans ?_ (by assumption)))
   ·(repeat' first|exact aa.le_refl _|assumption|apply aa.le.alloc|(refine aa.le.set ?_ (by(try simp only[YX,YY]);omega) _)|(refine aa.le.trans ?_ (by assumption)))
  |some y=>
   obtain⟨m,z⟩:=y
   obtain⟨hp0,M,hM⟩:=qE hp
   simp only[hp,hM]at hK
   have hL:=(hT.dir m M hM).1
   have hz1:=uH (l6 hp)
   have kz:H.le ((H2.alloc (.cells [.pointer none,.string ⟨#[]⟩] false)).set H2.next (.cells [.pointer (some ⟨a m,0,none⟩),ak z] false)):=k12.trans ((H2.ax _).set (Nat.le_refl _) _)
   simp -implicitDefEqProofs [sj,hp0]
   generalize (aR T s).1=n at *
   refine ai (xV c hc hTy (h.le kz) hlt ?_)
   cases hf:dS T n with
   |none=>
    simp only[hf]at hK
    simp only[Option.isSome_none,IR]
    simp -implicitDefEqProofs [aU]
    exact hK w _ (kz.mv w) (h.le kz)
   |some y=>
    obtain⟨u,k⟩:=y
    simp only[hf]at hK
    simp only[Option.isSome_some,IR]
    simp -implicitDefEqProofs [aU]
    refine ai (GH c hc hD (h.le kz) hM (s:=z) (by omega) fun H3 k3=> ?_)
    have Qw:=kz.trans k3
    by_cases hl:(bF M z).2=0
    ·simp only[if_pos hl]at hK
     simp -implicitDefEqProofs [hl]
     exact hK w _ (Qw.mv w) (h.le Qw)
    ·simp only[if_neg hl]at hK
     have i3:=h.le Qw
     obtain⟨f1,f2,f3⟩:=i3.file hf
     simp only[]at f3
     have hkb:=(hT.file n u k hf).2
     by_cases Qf:100≤k
     ·simp only[if_pos Qf]at hK
      simp -implicitDefEqProofs [hl,f3,Qf]
      exact hK w _ (Qw.mv w) (h.le Qw)
     ·simp only[if_neg Qf]at hK
      obtain⟨g,hlf⟩:=sD hf
      simp only[]at hlf
      simp only[hlf,Option.elim_some]at hK
      have w1:IntKind.i64.wrap (k+1)=k+1:=wrap64 (by omega) (by omega)
      obtain⟨m4,i4⟩:=i3.file' (t:=u) (j:=k+1) (H':=H3.set (a n) (.cells [ak u,.int .i64 (k+1)] false)) hlf (by simp only[YY]) (fun b hb=>by simp[YW,hb]) (by simp[YW])
      obtain⟨Y,hY⟩: ∃Y,Y=H3.set (a n) (.cells [ak u,.int .i64 (k+1)] false):=⟨_,rfl⟩
      rw[←hY]at m4 i4
      have n3:=k3.next
      simp only[YX,YY]at n3
      have n2:=k12.next
      have g3:H3.get H2.next=some (.cells [.pointer (some ⟨a m,0,none⟩),ak z] false):=by
       rw[k3.get H2.next (by simp only[YX,YY];omega)];simp[YW]
      have e1: ¬ H2.next=a n:=fun e=>by have:=(h.file hf).1;omega
      have gY:Y.get H2.next=some (.cells [.pointer (some ⟨a m,0,none⟩),ak z] false):=by rw[hY];simp[YW,e1,g3]
      have hmn:m≠n:=fun e=>by
       obtain⟨g',hg'⟩:=jq hM
       rw[e,hlf]at hg';cases hg'
      have hM2:aS (T.put n (some (g,.file u (k+1)))) m=some M:=by
       unfold aS at hM ⊢
       simp only[aQ.put,if_neg hmn];exact hM
      simp -implicitDefEqProofs [hl,f3,Qf,w1,←hY,gY]
      refine ai (QC c hD CB hI i4 hM2 (s:=z) (ino:=n) (by omega) (by omega) fun w5 H5 m5 i5=> ?_)
      simp -implicitDefEqProofs []
      exact hK _ _ ((Qw.mv w).trans (m4.trans m5)) i5
 ·simp only[if_pos h0]at hK
  simp -implicitDefEqProofs [h0]
  exact hK _ _ (k1.mv w) (h.le k1)
end
end
section
def yX (T:aQ)(s t:List UInt8):aQ×Int:=if ¬ (aR T s).2=0 then (T,(aR T s).2)else match (cK T t).1 with
 |none=>(T,(cK T t).2)
 |some (m2,x2)=>if (aR T s).1=1∨r9 s t=true then (T,1)else match (cK T s).1 with
  |none=>(T,0)
  |some (m1,x1)=>if m1=m2∧x1=x2 then (T,0)else match aS T m2 with
   |none=>(T,0)
   |some M2=>if (bF M2 x2).2=0 then (T,6)else match aS T m1 with
    |none=>(T,0)
    |some M1=>match aS (T.lu m1 (jb M1 x1).1) m2 with
     |none=>(T,0)
     |some M3=>((T.lu m1 (jb M1 x1).1).lu m2 (jc M3 x2 (aR T s).1).1,0)
theorem SL {P:Program}{E:Env}{H:aa}{x y:Operand}:bB P E H (.wX x y)=uQ H (ev E x) (ev E y):=rfl
theorem gu.qhV {F D:TypeId}{w:nu}{a:Nat→Nat}{H:aa}{p n:Nat}{T:aQ}{L:List aP}(h:gu F D w a H p T)(hd:aS T n=some L):a n<H.next∧w (a n)=n+2∧O4 H (a n) 0=true:=by
 obtain⟨h1,h2,q,hD,h4⟩:=h.dir hd
 obtain⟨u,g1,g2⟩:=hD.rep
 exact⟨hD.lt,Classical.byContradiction fun e=>h2 ⟨hD.lt,e⟩,by simp[O4,g1]⟩
theorem qcU {F D:TypeId}{w:nu}{a:Nat→Nat}{H:aa}{p m1 m2:Nat}{T:aQ}{L1 L2:List aP}{x1 x2:List UInt8}(h:gu F D w a H p T)(h1:aS T m1=some L1)(h2:aS T m2=some L2):
 uQ H (.agg #[.pointer (some ⟨a m1,0,none⟩),ak x1]) (.agg #[.pointer (some ⟨a m2,0,none⟩),ak x2])=some (.bool (decide (m1=m2∧x1=x2))):=by
 obtain⟨_,b1,b2⟩:=h.qhV h1
 obtain⟨_,c1,c2⟩:=h.qhV h2
 have hx:decide ((⟨x1.toArray⟩:ByteArray)=⟨x2.toArray⟩)=decide (x1=x2):=by
  apply decide_eq_decide.2
  constructor
  ·intro e;simpa using e
  ·rintro rfl;rfl
 by_cases hm:m1=m2
 ·subst hm
  simp[uQ,ptrEq,ak,hx]
 ·have hne: ¬ a m1=a m2:=fun e=>by rw[e,c1]at b1;omega
  simp[uQ,ptrEq,ak,hne,b2,c2,hm]
section
variable (c:Ctx) (hc:dP c) (hP:dD c) (hD:bI c) (hX:jP c) (CB:pJ c) (hI:kS c) (hN:kE c) (hTy:c.Ty 14≠c.Ty 13) {H:aa} {K:Value→aa→Prop} {w:nu} {a:Nat→Nat} {p:Nat} {T:aQ}
include hc hP hD hX CB hI hN hTy in
theorem UX {s t:List UInt8}(h:gu (c.Ty 14) (c.Ty 13) w a H p T)(hT:T.ok)(hs:s.length≤1000000)(ht:t.length≤1000000)
 (hK: ∀w' H',Mv w w' H H'→gu (c.Ty 14) (c.Ty 13) w' a H' p (yX T s t).1→K (.int .i64 (yX T s t).2) H'):
 c.C (c.F Ch) [.pointer (some ⟨p,0,none⟩),ak s,ak t] H K:=by
 refine c.enter hc.Gt rfl ?_
 unfold yX at hK
 simp -implicitDefEqProofs [lV]
 refine ai (rE c hc hP hD hX hN hTy h hT hs fun H1 k1=> ?_)
 by_cases h0:(aR T s).2=0
 ·have h0': ¬ ¬ (aR T s).2=0:=fun e=>e h0
  simp only[if_neg h0']at hK
  have hlt:=pM hT s
  simp -implicitDefEqProofs [h0]
  refine ai (oP c hc hP hD hX hN hTy (h.le k1) hT ht fun H2 k2=> ?_)
  have k12:=k1.trans k2
  cases hp:(cK T t).1 with
  |none=>
   have hp0:=vQ hp
   simp only[hp]at hK
   simp -implicitDefEqProofs [sj,ak,hp0]
   refine hK w _ (aa.le.mv (aa.le.trans k12 ?_) w) (h.le (aa.le.trans k12 ?_))
   ·(repeat' first|exact aa.le_refl _|assumption|apply aa.le.alloc|(refine aa.le.set ?_ (by(try simp only[YX,YY]);omega) _)|(refine aa.le.trans ?_ (by assumption)))
   ·(repeat' first|exact aa.le_refl _|assumption|apply aa.le.alloc|(refine aa.le.set ?_ (by(try simp only[YX,YY]);omega) _)|(refine aa.le.trans ?_ (by assumption)))
  |some y=>
   obtain⟨m2,z2⟩:=y
   obtain⟨hp0,M2,hM2⟩:=qE hp
   simp only[hp]at hK
   have hz2:=uH (l6 hp)
   obtain⟨X,hX0⟩: ∃X,X=(H2.alloc (.cells [.pointer none,.string ⟨#[]⟩] false)).set H2.next (.cells [.pointer (some ⟨a m2,0,none⟩),ak z2] false):=⟨_,rfl⟩
   have kX:H2.le X:=by rw[hX0];exact(H2.ax _).set (Nat.le_refl _) _
   have nX:X.next=H2.next+1:=by rw[hX0];rfl
   have gX:X.get H2.next=some (.cells [.pointer (some ⟨a m2,0,none⟩),ak z2] false):=by rw[hX0];simp[YW]
   have kz:H.le X:=k12.trans kX
   by_cases h1:(aR T s).1=1
   ·have X7:((aR T s).1:Int)=1:=by omega
    simp only[if_pos (Or.inl h1)]at hK
    simp -implicitDefEqProofs [sj,hp0,h1,X7,←hX0]
    exact hK w _ (kz.mv w) (h.le kz)
   ·have X7: ¬ ((aR T s).1:Int)=1:=by omega
    simp -implicitDefEqProofs [sj,hp0,h1,X7,←hX0]
    refine ai (Xu c hP hD hX hN hs ht fun H3 k3=> ?_)
    have Qw:=kz.trans k3
    by_cases hw:r9 s t=true
    ·simp only[if_pos (Or.inr hw)]at hK
     simp -implicitDefEqProofs [hw]
     exact hK w _ (Qw.mv w) (h.le Qw)
    ·simp only[if_neg (show ¬ ((aR T s).1=1∨r9 s t=true)from fun e=>e.elim h1 hw)]at hK
     simp only[Bool.not_eq_true]at hw
     obtain⟨m1,z1,M1,e1,hM1,e3,e4⟩:=qG h0 h1
     simp only[e1,hM1,hM2]at hK
     have hz1:=uH (l6 (T:=T) (s:=s) (by rw[e1]))
     simp -implicitDefEqProofs [hw]
     refine ai (oP c hc hP hD hX hN hTy (h.le Qw) hT hs fun H4 k4=> ?_)
     have k04:=Qw.trans k4
     obtain⟨Y,hY⟩: ∃Y,Y=(H4.alloc (.cells [.pointer none,.string ⟨#[]⟩] false)).set H4.next (.cells [.pointer (some ⟨a m1,0,none⟩),ak z1] false):=⟨_,rfl⟩
     have kY:H4.le Y:=by rw[hY];exact(H4.ax _).set (Nat.le_refl _) _
     have nY:Y.next=H4.next+1:=by rw[hY];rfl
     have gY:Y.get H4.next=some (.cells [.pointer (some ⟨a m1,0,none⟩),ak z1] false):=by rw[hY];simp[YW]
     have n3:=k3.next
     have n4:=k4.next
     have n12:=k12.next
     have gX4:=(kY.get H2.next (by omega)).trans ((k4.get H2.next (by omega)).trans ((k3.get H2.next (by omega)).trans gX))
     have k0Y:=k04.trans kY
     have hsl:=qcU (x1:=z1) (x2:=z2) (h.le k0Y) hM1 hM2
     rw[e1]
     generalize (aR T s).1=n at *
     by_cases heq:m1=m2∧z1=z2
     ·simp only[if_pos heq]at hK
      have hde:decide (m1=m2∧z1=z2)=true:=decide_eq_true heq
      simp -implicitDefEqProofs [sj,←hY,gY,gX4,SL,hsl,hde]
      exact hK w _ (k0Y.mv w) (h.le k0Y)
     ·simp only[if_neg heq]at hK
      have hde:decide (m1=m2∧z1=z2)=false:=decide_eq_false heq
      simp -implicitDefEqProofs [sj,←hY,gY,gX4,SL,hsl,hde]
      have hL2:=(hT.dir m2 M2 hM2).1
      have hL1:=(hT.dir m1 M1 hM1).1
      refine ai (GH c hc hD (h.le k0Y) hM2 (s:=z2) (by omega) fun H5 k5=> ?_)
      have k05:=k0Y.trans k5
      by_cases hl:(bF M2 z2).2=0
      ·simp only[if_pos hl]at hK
       simp -implicitDefEqProofs [hl]
       exact hK w _ (k05.mv w) (h.le k05)
      ·simp only[if_neg hl]at hK
       have gX5:=(k5.get H2.next (by omega)).trans gX4
       have gY5:=(k5.get H4.next (by omega)).trans gY
       have n5:=k5.next
       simp -implicitDefEqProofs [hl,gY5]
       refine ai (QD c hD (h.le k05) hM1 (by omega) fun w6 H6 m6 i6=> ?_)
       have gX6:=(m6.get H2.next (by omega) (h.new _ (by omega))).trans gX5
       obtain⟨M3,hM3,hL3⟩: ∃M3,aS (T.lu m1 (jb M1 z1).1) m2=some M3∧M3.length≤1000:=by
        obtain⟨g1,hg1⟩:=jq hM1
        unfold aQ.lu
        rw[hg1]
        by_cases hmm:m2=m1
        ·subst hmm
         rw[hM1]at hM2
         injection hM2 with hM2
         subst hM2
         refine⟨(jb M1 z1).1,by simp[aS,aQ.put],?_⟩
         unfold jb
         split
         ·simp only[List.length_eraseIdx];split <;> omega
         ·exact hL1
        ·exact⟨M2,by unfold aS at hM2 ⊢;simp only[aQ.put,if_neg hmm];exact hM2,hL2⟩
       simp only[hM3]at hK
       simp -implicitDefEqProofs [gX6]
       refine ai (QC c hD CB hI i6 hM3 (s:=z2) (ino:=n) (by omega) (by omega) fun w7 H7 m7 i7=> ?_)
       simp -implicitDefEqProofs []
       exact hK _ _ ((k05.mv w).trans (m6.trans m7)) i7
 ·simp only[if_pos h0]at hK
  simp -implicitDefEqProofs [h0]
  exact hK _ _ (k1.mv w) (h.le k1)
end
end
section
def eB:oN→List UInt8
 | .file s _=>s
 | .dir L=>wh L
def qj:oN→Nat
 | .file _ _=>1
 | .dir _=>2
def NN (n:Nat)(x:Int×oN):List UInt8:=encI n++encI x.1++[UInt8.ofNat (qj x.2)]++(encI (eB x.2).length++eB x.2)
theorem Grow.str {H:aa}{B:Nat}{v:Value}{l t:List UInt8}(hb:Grow H B 1 v (l.map fV))(hB:B≤H.next)(hl:l.length+t.length≤140737488355328):
 ∃v' H',bQ H 1 1 v t.length (t.map fun b=>.int .u8 (b.toNat:Nat))=some (v',H')∧Grow H' B 1 v' ((l++t).map fV)∧aa.keep B H H':=by
 rcases hb with⟨e,rfl⟩|hb
 ·have hl0:l=[]:=by simpa using e
  subst hl0
  by_cases ht:t=[]
  ·subst ht
   refine⟨.slice none 0 0,H,?_,Grow.nil _ _ _,aa.Gy _ _⟩
   exact EG (B:=B) (rows:=[]) (Grow.nil _ _ _).buf (by omega) (by omega) (by simp) (by simp)
  ·have hfl: ∀t:List UInt8,(t.map fV).flatten=t.map fun b=>.int .u8 (b.toNat:Nat):=fun t=>by
    induction t with
    |nil=>rfl
    |cons a t ih=>simp only[List.map_cons,List.flatten_cons,ih];rfl
   have h:=Buf.append (bytes:=1) (new:=t.map fV) (Grow.nil H B 1).buf hB (by omega) (by omega) (by simp;omega) (by simp;omega) (fun r hr=>by simp only[List.mem_map]at hr;obtain⟨x,_,rfl⟩:=hr;rfl) (by
    rw[hfl,List.all_eq_true];intro x hx;simp only[List.mem_map]at hx;obtain⟨y,_,rfl⟩:=hx;rfl) (by simpa using ht)
   rw[hfl,List.length_map]at h
   obtain⟨v',H',h1,h2,h3⟩:=h
   exact⟨v',H',h1,.inr (by simpa using h2),h3⟩
 ·obtain⟨v',H',h1,h2,h3⟩:=Buf.str hb hB hl
  exact⟨v',H',h1,.inr h2,h3⟩
theorem xY {n:Nat}{g:Int}{d:oN}(hn:n<256)(hg1: -9223372036854775808≤g)(hg2:g<9223372036854775808)(ht:(eB d).length≤50000):(NN n (g,d)).length≤31+(eB d).length:=by
 have h1:=bN (n:=(n:Int)) (by omega) (by omega)
 have h2:=bN hg1 hg2
 have h3:=bN (n:=((eB d).length:Int)) (by omega) (by omega)
 unfold NN
 simp only[List.length_append,List.length_cons,List.length_nil]
 omega
theorem Wr.qbg {w:Wr}{n:Nat}(hn:n≤255):w.byte n=w.lay [UInt8.ofNat n]:=by
 unfold Wr.byte
 rw[if_neg (by omega)]
 congr 3
 omega
section
variable (c:Ctx) (hc:dP c) (hC:eU c) (hD:bI c) (hTy:c.Ty 14≠c.Ty 13) {H:aa} {K:Value→aa→Prop} {w:nu} {a:Nat→Nat} {p:Nat} {T:aQ}
include hc hC in
theorem OO {f:FuncId}{c1 c2 v:Value}{b B:Nat}{l x:List UInt8}(hb:H.get b=some (.cells [v] false))(hbn:b<B)(hB:B≤H.next)(hv:Grow H B 1 v (l.map fV))(hl:l.length≤100000000)(hx:x.length≤65536)
 (hf: ∀q H1 K1,H.next≤q→H.le H1→Ia H1 q ⟨65536,[],0⟩→(∀H2,aa.upd [q] H1 H2→Ia H2 q ⟨65536,x,0⟩→K1 (.tuple #[]) H2)→c.C f [.pointer (some ⟨q,0,none⟩),c1,c2] H1 K1)
 (hK: ∀v' H',H.next≤H'.next→(∀k,k<B→k≠b→H'.get k=H.get k)→H'.get b=some (.cells [v'] false)→Grow H' B 1 v' ((l++x).map fV)→K (.tuple #[]) H'):
 c.C (c.F zy) [.func (.func f) #[] #[c1,c2],.pointer (some ⟨b,0,none⟩)] H K:=by
 refine c.enter hc.Ez rfl ?_
 simp -implicitDefEqProofs [kN]
 refine ai (ni c hC fun q H1 p1 k1 w1=> ?_)
 simp only[show(if (65536:Int)<(if (0:Int)>65536 then 0 else 65536)then (65536:Int)else (if (0:Int)>65536 then 0 else 65536))=65536 from by decide]at w1
 simp -implicitDefEqProofs []
 refine ai (hf q H1 _ p1 k1 w1 fun H2 u2 w2=> ?_)
 simp -implicitDefEqProofs []
 refine ai (xQ c hC w2 ?_)
 have k2:H.le H2:=k1.vZ u2 (by simpa using p1)
 have g2:=(k2.get b (by omega)).trans hb
 obtain⟨v3,H3,e3,gr3,k3⟩:=Grow.str (t:=x) (hv.le k2) (Nat.le_trans hB k2.next) (by omega)
 have g3:=(k3.get b hbn).trans g2
 obtain⟨a3,c3,ev3⟩:=gr3.len
 subst ev3
 simp only[List.length_map,List.length_append]at e3 gr3
 have hsz:(ByteArray.mk x.toArray).size=x.length:=by simp[ByteArray.size]
 simp -implicitDefEqProofs [Wr.done,g2,ak,hsz,e3,g3]
 refine hK (.slice a3 (l.length+x.length) c3) _ ?_ (fun k hk hne=> ?_) (by simp[YW]) ?_
 ·simp only[YY];exact Nat.le_trans k2.next k3.next
 ·simp only[YW,if_neg hne]
  rw[k3.get k hk,k2.get k (by omega)]
 ·rcases gr3 with gr3|gr3
  ·exact .inl gr3
  ·obtain⟨h0,blk,q1,q2,q3,q4⟩:=gr3
   refine .inr ⟨h0,blk,q1,by simp only[YY];exact q2,q3,?_⟩
   rw[YW,if_neg (by omega)];exact q4
include hc hC in
theorem XG {q b1 b2 p n:Nat}(h1:H.get b1=some (.cells [.pointer (some ⟨p,0,none⟩)] false))(h2:H.get b2=some (.cells [.int .i64 n] false))(h:gu (c.Ty 14) (c.Ty 13) w a H p T)(hg1: -9223372036854775808≤T.gen)(hg2:T.gen<9223372036854775808)(hn:n≤256)
 (hb1:b1<q) (hb2:b2<q) (hp:p<q) (hw:Ia H q ⟨65536,[],0⟩)
 (hK: ∀H',aa.upd [q] H H'→Ia H' q ⟨65536,encI T.gen++encI n,0⟩→K (.tuple #[]) H'):
 c.C (c.F zC) [.pointer (some ⟨q,0,none⟩),.pointer (some ⟨b1,0,none⟩),.pointer (some ⟨b2,0,none⟩)] H K:=by
 refine c.enter hc.EA rfl ?_
 have hg:=h.get
 have IV:=uG (F:=c.Ty 14) (D:=c.Ty 13) (a:=a) (T:=T)
 have hlen:=aX (c.Ty 14) (c.Ty 13) a T
 have ML:(aN (c.Ty 14) (c.Ty 13) a T)[512]'(by rw[hlen];omega) = .int .i64 T.gen:=by
  have:=IV;rw[List.getElem?_eq_getElem (by rw[hlen];omega)]at this;exact Option.some.inj this
 have l1:=bN hg1 hg2
 have l2:=bN (n:=(n:Int)) (by omega) (by omega)
 simp -implicitDefEqProofs [kP,h1,hg,IV,ML,hlen]
 refine ai (qB c hC hw hg1 hg2 fun H2 u2 w2=> ?_)
 rw[iL (by simp;omega),List.nil_append]at w2
 have hlt:=hw.1
 have g2:=(u2.get b2 (by omega) (by simp only[List.mem_singleton];omega)).trans h2
 simp -implicitDefEqProofs [g2]
 refine ai (qB c hC w2 (by omega) (by omega) fun H3 u3 w3=> ?_)
 rw[iL (by omega)]at w3
 simp -implicitDefEqProofs []
 exact hK _ (u2.trans u3) w3
include hc hC hD in
theorem XH {n:Nat}{L:List aP}(h:gu (c.Ty 14) (c.Ty 13) w a H p T)(hd:aS T n=some L)(hT:T.ok)(hK: ∀H',H.le H'→K (ak (wh L)) H'):c.C (c.F Cm) [.agg #[.pointer (some ⟨a n,0,none⟩)]] H K:=by
 refine c.enter hc.Gx rfl ?_
 have hle:=H.ax (.cells [.pointer (some ⟨a n,0,none⟩)] false)
 obtain⟨hL,ho⟩:=hT.dir n L hd
 have l1:=GD ho
 have l2:=bN (n:=(L.length:Int)) (by omega) (by omega)
 simp -implicitDefEqProofs [lZ]
 refine ai (qew c hD hC ((h.le hle).dir hd) (by omega) ho (by unfold wh;rw[List.length_append];omega) fun H2 k2=> ?_)
 simp -implicitDefEqProofs []
 exact hK _ (hle.trans k2)
theorem rF {T:aQ}(hT:T.ok){n:Nat}{g:Int}{d:oN}(hx:T.l n=some (g,d)):(eB d).length≤49000:=by
 cases d with
 |file s k=>have:=(hT.file n s k (by simp[dS,hx])).1;simp only[eB];omega
 |dir L=>
  obtain⟨hL,ho⟩:=hT.dir n L (by simp[aS,hx])
  have l1:=GD ho
  have l2:=bN (n:=(L.length:Int)) (by omega) (by omega)
  simp only[eB,wh,List.length_append];omega
include hc hC hD hTy in
theorem XI {q b8 b9 n:Nat}{g:Int}{d:oN}(h8:H.get b8=some (.cells [.int .i64 n] false))(h9:H.get b9=some (.cells [.int .i64 g,Dp (c.Ty 14) (c.Ty 13) (a n) d] false))(h:gu (c.Ty 14) (c.Ty 13) w a H p T)(hT:T.ok)(hx:T.l n=some (g,d))(hn:n<256)
 (hg1: -9223372036854775808≤g) (hg2:g<9223372036854775808)
 (hb8:b8<q) (hb9:b9<q) (hq: ∀b,w b≠0→b<q) (hw:Ia H q ⟨65536,[],0⟩)
 (hK: ∀H',aa.upd [q] H H'→Ia H' q ⟨65536,NN n (g,d),0⟩→K (.tuple #[]) H'):
 c.C (c.F zD) [.pointer (some ⟨q,0,none⟩),.pointer (some ⟨b8,0,none⟩),.pointer (some ⟨b9,0,none⟩)] H K:=by
 refine c.enter hc.EB rfl ?_
 have QA: ¬ c.Ty 13=c.Ty 14:=fun e=>hTy e.symm
 have hlen:=xY (d:=d) hn hg1 hg2 (by have:=rF hT hx;omega)
 have hdl:=rF hT hx
 have hlt:=hw.1
 unfold NN at hK hlen
 simp only[]at hK hlen
 simp only[List.length_append]at hlen
 have up: ∀H',aa.upd [q] H H'→gu (c.Ty 14) (c.Ty 13) w a H' p T:=fun H' u=>h.keep u.next fun b hb h0=>u.get b hb (by simp only[List.mem_singleton];have:=hq b h0;omega)
 simp -implicitDefEqProofs [kQ,h8]
 refine ai (qB c hC hw (by omega) (by omega) fun H2 u2 w2=> ?_)
 rw[iL (by simp;omega),List.nil_append]at w2
 have g92:=(u2.get b9 (by omega) (by simp only[List.mem_singleton];omega)).trans h9
 have n2:=u2.next
 simp -implicitDefEqProofs [g92]
 refine ai (qB c hC w2 hg1 hg2 fun H3 u3 w3=> ?_)
 rw[iL (by omega)]at w3
 have u03:=u2.trans u3
 have g93:=(u03.get b9 (by omega) (by simp only[List.mem_singleton];omega)).trans h9
 have n3:=u3.next
 cases d with
 |file s k=>
  simp only[Dp]at g93 h9
  have hf:dS T n=some (s,k):=by simp[dS,hx]
  simp -implicitDefEqProofs [g93,VK,qds QA]
  refine ai (OJ c hc ?_)
  simp -implicitDefEqProofs []
  refine ai (Mo c hC w3 fun H4 u4 w4=> ?_)
  rw[show((1:Int))=((1:Nat):Int)from rfl,Wr.qbg (by omega),iL (by simp only[List.length_append];simp only[qj]at hlen;omega)]at w4
  have u04:=u03.trans u4
  have g94:=(u04.get b9 (by omega) (by simp only[List.mem_singleton];omega)).trans h9
  have i4:=up _ u04
  simp -implicitDefEqProofs [g94,VK,qds QA]
  refine ai (XA c hc (i4.file hf).2.2 ?_)
  simp -implicitDefEqProofs []
  refine ai (uC c hC w4 (by simp only[eB]at hdl;omega) fun H5 u5 w5=> ?_)
  rw[iL (by simp only[List.length_append];simp only[qj,eB]at hlen hdl;omega)]at w5
  simp -implicitDefEqProofs []
  exact hK _ (u04.trans u5) w5
 |dir L=>
  simp only[Dp]at g93 h9
  have hf:aS T n=some L:=by simp[aS,hx]
  simp -implicitDefEqProofs [g93,VK,qdr]
  refine ai (OI c hc ⟨_,rfl⟩ fun H4 k4=> ?_)
  simp -implicitDefEqProofs []
  refine ai (Mo c hC (w3.le k4) fun H5 u5 w5=> ?_)
  rw[show((2:Int))=((2:Nat):Int)from rfl,Wr.qbg (by omega),iL (by simp only[List.length_append];simp only[qj]at hlen;omega)]at w5
  have u05:=u03.trans ((k4.upd [q]).trans u5)
  have g95:=(u05.get b9 (by omega) (by simp only[List.mem_singleton];omega)).trans h9
  have i5:=up _ u05
  simp -implicitDefEqProofs [g95,VK,qdr]
  refine ai (XH c hc hC hD i5 hf hT fun H6 k6=> ?_)
  simp -implicitDefEqProofs []
  refine ai (uC c hC (w5.le k6) (by simp only[eB]at hdl;omega) fun H7 u7 w7=> ?_)
  rw[iL (by simp only[List.length_append];simp only[qj,eB]at hlen hdl;omega)]at w7
  simp -implicitDefEqProofs []
  exact hK _ (u05.trans ((k6.upd [q]).trans u7)) w7
end
end
section
def GK (T:aQ)(n:Nat):List UInt8:=match T.l n with
 |none=>[]
 |some x=>NN n x
def fC (T:aQ)(i:Nat):Nat:=((List.range i).filter fun n=>(T.l n).isSome).length
def jY (T:aQ)(i:Nat):List UInt8:=((List.range i).map (GK T)).flatten
def nJ (T:aQ):List UInt8:=encI T.gen++encI (fC T 256)
def Ah (T:aQ):List UInt8:=nJ T++jY T 256
theorem kw (T:aQ)(i:Nat):fC T (i+1)=fC T i+if (T.l i).isSome then 1 else 0:=by
 unfold fC
 rw[List.range_succ,List.filter_append,List.length_append]
 by_cases h:(T.l i).isSome <;> simp[h]
theorem EU (T:aQ)(i:Nat):fC T i≤i:=by
 unfold fC
 refine Nat.le_trans (List.length_filter_le _ _) (by simp)
theorem CF (T:aQ)(i:Nat):jY T (i+1)=jY T i++GK T i:=by
 unfold jY
 rw[List.range_succ,List.map_append,List.flatten_append]
 simp
theorem OP {T:aQ}(hT:T.ok)(hg: ∀n x,T.l n=some x→0≤x.1∧x.1≤1000000): ∀i,i≤256→(jY T i).length≤i*50000
 |0,_=>by simp[jY]
 |i+1,hi=>by
  have ih:=OP hT hg i (by omega)
  rw[CF,List.length_append]
  have:(GK T i).length≤50000:=by
   unfold GK
   cases hx:T.l i with
   |none=>simp
   |some x=>
    obtain⟨g,d⟩:=x
    have h1:=hg i _ hx
    have h2:=rF hT hx
    have h3:=xY (n:=i) (g:=g) (d:=d) (by omega) (by simp only[]at h1;omega) (by simp only[]at h1;omega) (by omega)
    simp only[];omega
  omega
theorem QF {F D:TypeId}{a:Nat→Nat}{T:aQ}:(List.take 512 (aN F D a T)).length=512:=by rw[List.length_take,aX];rfl
theorem UY {F D:TypeId}{a:Nat→Nat}{T:aQ}{i:Nat}(h:i<256):List.take 2 (List.drop (i*2) (List.take 512 (aN F D a T)))=[ku T i,dH F D a T i]:=by
 apply List.ext_getElem?
 intro j
 rw[List.getElem?_take]
 match j with
 |0=>rw[if_pos (by omega),List.getElem?_drop,Nat.add_zero,List.getElem?_take,if_pos (by omega),GG h];rfl
 |1=>rw[if_pos (by omega),List.getElem?_drop,List.getElem?_take,if_pos (by omega),oO h];rfl
 |j+2=>rw[if_neg (by omega)];rfl
theorem l7 {T:aQ}{i:Nat}:(ku T i).cells = #[ku T i]:=rfl
theorem oQ {T:aQ}{i:Nat}:fo (ku T i)=true:=rfl
theorem sF {F D:TypeId}{a:Nat→Nat}{T:aQ}{i:Nat}:(dH F D a T i).cells = #[dH F D a T i]:=by
 unfold dH
 cases T.l i with
 |none=>rfl
 |some x=>exact yV
theorem vR {F D:TypeId}{a:Nat→Nat}{T:aQ}{i:Nat}:fo (dH F D a T i)=true:=by
 unfold dH
 cases T.l i with
 |none=>rfl
 |some x=>exact ET
theorem yY {F D:TypeId}{a:Nat→Nat}{T:aQ}{i:Nat}:aU 4 (dH F D a T i)=some (T.l i).isNone:=by
 unfold dH
 cases T.l i with
 |none=>rfl
 |some x=>obtain⟨g,d⟩:=x;cases d <;> rfl
section
variable (c:Ctx) (hc:dP c) (hC:eU c) (hD:bI c) (hTy:c.Ty 14≠c.Ty 13) {H:aa} {K:Value→aa→Prop} {w:nu} {a:Nat→Nat} {p:Nat} {T:aQ}
include hc hC hD hTy in
theorem uI (h:gu (c.Ty 14) (c.Ty 13) w a H p T)(hT:T.ok)(hg1:0≤T.gen)(hg2:T.gen≤1000000)(hg: ∀n x,T.l n=some x→0≤x.1∧x.1≤1000000)
 (hK: ∀H',H.le H'→K (ak (Ah T)) H'):c.C (c.F F7) [.pointer (some ⟨p,0,none⟩)] H K:=by
 refine c.enter hc.LM rfl ?_
 have hlt:=h.lt
 obtain⟨A,hA⟩: ∃A,A=List.take 512 (aN (c.Ty 14) (c.Ty 13) a T):=⟨_,rfl⟩
 have hA':=hA.symm
 have hAl:A.length=512:=by rw[hA];exact QF
 have hAi: ∀i,i<256→List.take 2 (List.drop (i*2) A)=[ku T i,dH (c.Ty 14) (c.Ty 13) a T i]:=fun i hi=>by rw[hA];exact UY hi
 have hlen:=aX (c.Ty 14) (c.Ty 13) a T
 obtain⟨X,hX0⟩: ∃X:aa,X=(((H.alloc (.cells [.pointer (some ⟨p,0,none⟩)] false)).alloc (.cells [.slice none 0 0] false)).alloc (.cells [.int .i64 0] false)).set (H.next+1+1) (.cells [.int .i64 0] false):=⟨_,rfl⟩
 have nX:X.next=H.next+3:=by rw[hX0];rfl
 have kX:H.le X:=by rw[hX0];exact(((H.ax _).trans (aa.ax _ _)).trans (aa.ax _ _)).set (by omega) _
 have q1: ¬ H.next=H.next+1+1:=by omega
 have x0:X.get H.next=some (.cells [.pointer (some ⟨p,0,none⟩)] false):=by rw[hX0];simp[YV,YW,YX,YY,q1]
 have x1:X.get (H.next+1)=some (.cells [.slice none 0 0] false):=by rw[hX0];simp[YV,YW,YX,YY]
 have x2:X.get (H.next+1+1)=some (.cells [.int .i64 0] false):=by rw[hX0];simp[YV,YW,YX,YY]
 have xp:=(kX.get p hlt).trans h.get
 have e1: ¬ p=H.next:=by omega
 have e2: ¬ p=H.next+1:=by omega
 have e3: ¬ p=H.next+1+1:=by omega
 simp -implicitDefEqProofs [nR,aU,←hX0,x0,x1,x2,xp,hlen,hA',e1,e2,e3]
 refine cz c.mono (fun k E H'=> ∃i:Nat,i≤256∧k=256-i∧E 1 = .pointer (some ⟨H.next,0,none⟩)∧E 3 = .pointer (some ⟨H.next+1,0,none⟩)∧E 4 = .func (.func (c.F 446)) #[] #[.pointer (some ⟨H.next+1,0,none⟩)]∧E 5 = .pointer (some ⟨H.next+1+1,0,none⟩)∧E 16 = .agg A.toArray∧E 17 = .int .i64 i ∧
  H.next+3≤H'.next∧H.le H'∧H'.get H.next=some (.cells [.pointer (some ⟨p,0,none⟩)] false)∧H'.get (H.next+1)=some (.cells [.slice none 0 0] false)∧H'.get (H.next+1+1)=some (.cells [.int .i64 (fC T i)] false)) 256 ?_ ?_
 ·refine⟨0,by omega,rfl,?_⟩
  simp -implicitDefEqProofs [nX,x0,x1,x2,fC]
  exact kX
 ·rintro k E H' ⟨i,hi,rfl,t1,t3,t4,t5,t16,t17,hn3,hle,g0,g1,g2⟩
  by_cases hil:i<256
  ·have fO:(i:Int)<256:=by omega
   have hi2:i*2+2≤512:=by omega
   have hw:IntKind.i64.wrap ((i:Int)+1)=(i:Int)+1:=wrap64 (by omega) (by omega)
   have hcl:=EU T i
   have hw2:IntKind.i64.wrap ((fC T i:Int)+1)=(fC T i:Int)+1:=wrap64 (by omega) (by omega)
   have xZ:=hAi i hil
   have f1: ¬ H.next+1+1=H'.next:=by omega
   have f2: ¬ H.next+1=H'.next:=by omega
   have f3: ¬ H.next=H'.next:=by omega
   have f4: ¬ H'.next=H.next+1+1:=by omega
   cases hx:(T.l i).isNone with
   |true=>
    have hs:=kw T i
    rw[show(T.l i).isSome=false by simpa using hx]at hs
    simp only[Bool.false_eq_true,if_false,Nat.add_zero]at hs
    simp -implicitDefEqProofs [t1,t3,t4,t5,t16,t17,hil,fO,hi2,hAl,xZ,l7,oQ,sF,vR,yY,hx,hw,f1,f2,f3,f4,g0,g1,g2]
    refine⟨256-(i+1),by omega,i+1,by omega,rfl,by simp,by omega,?_,?_⟩
    ·(repeat' first|exact aa.le_refl _|assumption|apply aa.le.alloc|(refine aa.le.set ?_ (by(try simp only[YX,YY]);omega) _)|(refine aa.le.trans ?_ (by assumption)))
    ·rw[hs]
   |false=>
    have hs:=kw T i
    rw[show(T.l i).isSome=true by simpa using hx]at hs
    simp only[if_true]at hs
    simp -implicitDefEqProofs [t1,t3,t4,t5,t16,t17,hil,fO,hi2,hAl,xZ,l7,oQ,sF,vR,yY,hx,hw,hw2,f1,f2,f3,f4,g0,g1,g2]
    refine⟨256-(i+1),by omega,i+1,by omega,rfl,by simp,by omega,?_,?_⟩
    ·(repeat' first|exact aa.le_refl _|assumption|apply aa.le.alloc|(refine aa.le.set ?_ (by(try simp only[YX,YY]);omega) _)|(refine aa.le.trans ?_ (by assumption)))
    ·rw[hs];simp[q1]
  ·have fO: ¬ (i:Int)<256:=by omega
   have:i=256:=by omega
   subst this
   simp -implicitDefEqProofs [t1,t3,t4,t5,t16,t17,hil,fO]
   have hh:(nJ T).length≤20:=by
    have l1:=bN (n:=T.gen) (by omega) (by omega)
    have l2:=bN (n:=(fC T 256:Int)) (by omega) (by have:=EU T 256;omega)
    unfold nJ;rw[List.length_append];omega
   have hpl:H.next≤H'.next:=hle.next
   refine ai (OO c hc hC (b:=H.next+1) (B:=H.next+3) (l:=[]) (x:=nJ T) g1 (by omega) hn3 (Grow.nil _ _ _) (by simp) (by omega)
    (fun q G K1 qq lq wq hk=>XG c hc hC (n:=fC T 256) ((lq.get _ (by omega)).trans g0) ((lq.get _ (by omega)).trans g2) (h.le (hle.trans lq)) (by omega) (by omega) (EU T 256) (by omega) (by omega) (by omega) wq hk) fun v1 H1 n1 fr1 b1 gr1=> ?_)
   have gN1:=(fr1 H.next (by omega) (by omega)).trans g0
   have le1:H.le H1:=⟨by omega,fun b hb=>(fr1 b (by omega) (by omega)).trans (hle.get b hb)⟩
   have gp1:=(le1.get p hlt).trans h.get
   simp -implicitDefEqProofs [t1,t3,t4,gN1,gp1,hlen,hA']
   refine cz c.mono (fun k E H'=> ∃i:Nat,i≤256∧k=256-i∧E 3 = .pointer (some ⟨H.next+1,0,none⟩)∧E 4 = .func (.func (c.F 446)) #[] #[.pointer (some ⟨H.next+1,0,none⟩)]∧E 32 = .agg A.toArray∧E 33 = .int .i64 i ∧
    H.next+3≤H'.next∧H.le H'∧∃v,H'.get (H.next+1)=some (.cells [v] false)∧Grow H' (H.next+3) 1 v ((nJ T++jY T i).map fV)) 256 ?_ ?_
   ·refine⟨0,by omega,rfl,?_⟩
    simp -implicitDefEqProofs [t3,t4]
    exact⟨by omega,le1,v1,b1,by simpa[jY]using gr1⟩
   ·clear t1 t3 t4 t5 t16 t17
    rintro k E G ⟨i,hi,rfl,t3,t4,t32,t33,hn3,hle,v,gb,gr⟩
    by_cases hil:i<256
    ·have fO:(i:Int)<256:=by omega
     have hi2:i*2+2≤512:=by omega
     have hw:IntKind.i64.wrap ((i:Int)+1)=(i:Int)+1:=wrap64 (by omega) (by omega)
     have xZ:=hAi i hil
     have f4: ¬ G.next=G.next+1:=by omega
     have f5: ¬ G.next+1=G.next:=by omega
     obtain⟨Z,hZ⟩: ∃Z:aa,Z=(((G.alloc (.cells [.int .i64 0] false)).alloc (.cells [.int .i64 0,.nilIface] false)).set G.next (.cells [.int .i64 i] false)).set (G.next+1) (.cells [ku T i,dH (c.Ty 14) (c.Ty 13) a T i] false):=⟨_,rfl⟩
     have nZ:Z.next=G.next+2:=by rw[hZ];rfl
     have kZ:G.le Z:=by rw[hZ];exact(((G.ax _).trans (aa.ax _ _)).set (Nat.le_refl _) _).set (by omega) _
     have z8:Z.get G.next=some (.cells [.int .i64 i] false):=by rw[hZ];simp[YV,YW,YX,YY,f4]
     have z9:Z.get (G.next+1)=some (.cells [ku T i,dH (c.Ty 14) (c.Ty 13) a T i] false):=by rw[hZ];simp[YV,YW,YX,YY]
     have zb:=(kZ.get _ (by omega)).trans gb
     have hs:=CF T i
     cases hx:T.l i with
     |none=>
      unfold GK at hs
      rw[hx]at hs
      simp only[List.append_nil]at hs
      have Nf:(T.l i).isNone=true:=by rw[hx];rfl
      simp -implicitDefEqProofs [t3,t4,t32,t33,hil,fO,hi2,hAl,xZ,l7,oQ,sF,vR,yY,Nf,hw,f4,f5,←hZ,z9]
      exact⟨256-(i+1),by omega,i+1,by omega,rfl,by simp,by omega,hle.trans kZ,v,zb,by rw[hs,←List.map_append];exact gr.le kZ⟩
     |some x=>
      obtain⟨g,d⟩:=x
      have Nf:(T.l i).isNone=false:=by rw[hx];rfl
      have hgb:=hg i _ hx
      simp only[]at hgb
      have hrl:=xY (n:=i) (g:=g) (d:=d) (by omega) (by omega) (by omega) (by have:=rF hT hx;omega)
      have hdl:=rF hT hx
      have hls:=OP hT hg i (by omega)
      unfold ku dH at z9
      rw[hx]at z9
      simp only[Option.elim_some]at z9
      have z9':=z9
      have hgn:ku T i = .int .i64 g:=by unfold ku;rw[hx];rfl
      have hnn:dH (c.Ty 14) (c.Ty 13) a T i=Dp (c.Ty 14) (c.Ty 13) (a i) d:=by unfold dH;rw[hx];rfl
      rw[hgn,hnn]at xZ hZ
      have hnil:aU 4 (Dp (c.Ty 14) (c.Ty 13) (a i) d)=some false:=by cases d <;> rfl
      simp -implicitDefEqProofs [t3,t4,t32,t33,hil,fO,hi2,hAl,xZ,yV,ET,hnil,hw,f4,f5,←hZ,z9]
      have hln:(nJ T++jY T i).length≤100000000:=by rw[List.length_append];omega
      refine ai (OO c hc hC (b:=H.next+1) (B:=H.next+3) (l:=nJ T++jY T i) (x:=NN i (g,d)) zb (by omega) (by omega) (gr.le kZ) hln (by omega)
       (fun q G2 K1 qq lq wq hk=>XI c hc hC hD hTy ((lq.get _ (by omega)).trans z8) ((lq.get _ (by omega)).trans z9) (h.le ((hle.trans kZ).trans lq)) hT hx (by omega) (by omega) (by omega) (by omega) (by omega) (fun b hb=>Classical.byContradiction fun e=>hb (h.new b (by have:=hle.next;omega))) wq hk) fun v2 G3 n3 fr3 b3 gr3=> ?_)
      simp -implicitDefEqProofs [t3,t4,t32,t33,hw]
      refine⟨256-(i+1),by omega,i+1,by omega,rfl,by simp,by omega,⟨by have:=hle.next;omega,fun b hb=>(fr3 b (by omega) (by omega)).trans (((hle.trans kZ).get b hb))⟩,v2,b3,?_⟩
      rw[hs,←List.map_append]
      unfold GK
      rw[hx]
      simpa using gr3
    ·have fO: ¬ (i:Int)<256:=by omega
     have:i=256:=by omega
     subst this
     rcases gr with⟨e,rfl⟩|⟨h0,blk,k1,k2,rfl,k4⟩
     ·have e':nJ T++jY T 256=[]:=by simpa using e
      simp -implicitDefEqProofs [t3,t4,t32,t33,hil,fO,gb]
      have:Ah T=[]:=e'
      rw[this]at hK
      exact hK _ hle
     ·have hfl:=gW ((nJ T++jY T 256).map fV) 1 h0
      have hbl:gQ (List.take (nJ T++jY T 256).length ((nJ T++jY T 256).map fV).flatten)=some (nJ T++jY T 256):=by
       rw[List.take_of_length_le (by simpa using Nat.le_of_eq hfl)];exact Cs _
      rw[List.length_append]at hbl
      have qhW:(nJ T).length+(jY T 256).length≤((nJ T++jY T 256).map fV).flatten.length:=by rw[hfl];simp
      obtain⟨cs,hcs⟩: ∃cs,cs=((nJ T++jY T 256).map fV).flatten:=⟨_,rfl⟩
      rw[←hcs]at k4 hbl qhW
      have hst:Value.string ⟨(nJ T++jY T 256).toArray⟩=ak (Ah T):=rfl
      simp -implicitDefEqProofs [t3,t4,t32,t33,hil,fO,gb,k4,hbl,qhW]
      exact hK _ hle
end
end
end
theorem yZ {w:nu}{A B k b:Nat}(h:b<A):dZ w A B k b=w b:=by unfold dZ;rw[if_pos h]
theorem y5 {w:nu}{A B k b:Nat}(h:A≤b)(h2:b<B):dZ w A B k b=k:=by unfold dZ;rw[if_neg (by omega),if_pos h2]
theorem OQ {w:nu}{A B k b:Nat}(h:A≤b)(h2:B≤b):dZ w A B k b=0:=by unfold dZ;rw[if_neg (by omega),if_neg (by omega)]
theorem gu.qhX {F D:TypeId}{w:nu}{a:Nat→Nat}{H H':aa}{p n x:Nat}{T T':aQ}{d:oN}{g:Int}{N:Nat}(hN:H'.next=N)(h:gu F D w a H p T)(hn:H.next≤H'.next)(ho: ∀b,b<H.next→w b≠0→b≠p→H'.get b=H.get b)
 (hx:nA (dZ w H.next N (n+2)) H' x n d) (hl: ∀m,T'.l m=if m=n then some (g,d)else T.l m) (hn1:1≤n) (hn2:n<256)
 (hg:H'.get p=some (.cells (aN F D (fun m=>if m=n then x else a m) T') false)):gu F D (dZ w H.next N (n+2)) (fun m=>if m=n then x else a m) H' p T':=by
 subst hN
 have hop:dZ w H.next H'.next (n+2) p=1:=by rw[yZ h.lt];exact h.own
 refine⟨Nat.lt_of_lt_of_le h.lt hn,hop,hg,fun m y hy=> ?_,fun b hb=>OQ (Nat.le_trans hn hb) hb,fun m y hy=> ?_⟩
 ·rw[hl]at hy
  by_cases hm:m=n
  ·subst hm
   rw[if_pos rfl]at hy
   injection hy with hy;subst hy
   simp only[if_true];exact hx
  ·rw[if_neg hm]at hy
   simp only[if_neg hm]
   refine(h.node m y hy).keep hn (fun b hb e=>ho b hb (by omega) fun e'=>by rw[e',h.own]at e;omega) (fun b hb=>yZ hb) fun b hb=> ?_
   by_cases hb2:b<H'.next
   ·rw[y5 hb hb2];omega
   ·rw[OQ hb (by omega)];omega
 ·rw[hl]at hy
  by_cases hm:m=n
  ·subst hm;exact⟨hn1,hn2⟩
  ·rw[if_neg hm]at hy;exact h.far m y hy
def noL:oN→oN
 | .file s _=>.file s 0
 | .dir L=>.dir L
def szN:oN→Nat
 | .file s _=>s.length
 | .dir _=>0
def vS (T:aQ)(n:Nat):Nat:=match T.l n with
 |none=>0
 |some x=>szN x.2
def jZ (T:aQ)(i:Nat):Nat:=((List.range i).map (vS T)).sum
theorem qH (T:aQ)(i:Nat):jZ T (i+1)=jZ T i+vS T i:=by
 unfold jZ;rw[List.range_succ,List.map_append,List.sum_append];simp
def iF (T:aQ)(i:Nat):aQ:=⟨T.gen,jZ T i,fun n=>if n<i then (T.l n).map (fun x=>(x.1,noL x.2))else none⟩
def sH (T:aQ)(i:Nat):List UInt8:=((List.range' i (256-i)).map (GK T)).flatten
theorem CG {T:aQ}{i:Nat}(h:i<256):sH T i=GK T i++sH T (i+1):=by
 unfold sH
 rw[show 256-i=(256-(i+1))+1 by omega,List.range'_succ,List.map_cons,List.flatten_cons]
theorem UZ (T:aQ):sH T 0=jY T 256:=by unfold sH jY;rw[List.range_eq_range']
theorem SN {T:aQ}{i:Nat}(h:T.l i=none):iF T (i+1)=iF T i:=by
 unfold iF
 have ht:jZ T (i+1)=jZ T i:=by rw[qH,vS,h];rfl
 rw[ht]
 congr 1
 funext n
 by_cases h1:n<i
 ·rw[if_pos h1,if_pos (by omega)]
 ·by_cases h2:n=i
  ·subst h2;rw[if_neg h1,if_pos (by omega),h];rfl
  ·rw[if_neg h1,if_neg (by omega)]
theorem MM {T:aQ}{i:Nat}{g:Int}{d:oN}(h:T.l i=some (g,d))(m:Nat):(iF T (i+1)).l m=if m=i then some (g,noL d)else (iF T i).l m:=by
 unfold iF
 simp only[]
 by_cases h2:m=i
 ·subst h2;rw[if_pos (by omega),if_pos rfl,h];rfl
 ·by_cases h1:m<i
  ·rw[if_pos (by omega),if_neg h2,if_pos h1]
  ·rw[if_neg (by omega),if_neg h2,if_neg h1]
theorem VN {T:aQ}: ∀(k i:Nat),i+k=256→fC T i<fC T 256→∃n x,i≤n∧n<256∧T.l n=some x∧iF T n=iF T i∧sH T n=sH T i∧fC T n=fC T i
 |0,i,hk,h=>by have:i=256:=by omega
               subst this;omega
 |k+1,i,hk,h=>by
  cases hx:T.l i with
  |some x=>exact⟨i,x,Nat.le_refl _,by omega,hx,rfl,rfl,rfl⟩
  |none=>
   have hc:fC T (i+1)=fC T i:=by rw[kw,hx];rfl
   obtain⟨n,x,h1,h2,h3,h4,h5,h6⟩:=VN (T:=T) k (i+1) (by omega) (by omega)
   exact⟨n,x,by omega,h2,h3,by rw[h4,SN hx],by rw[h5,CG (i:=i) (by omega)];simp[GK,hx],by omega⟩
theorem y7 {T:aQ}{i:Nat}: ∀k,fC T i≤fC T (i+k)
 |0=>Nat.le_refl _
 |k+1=>by have:=y7 (T:=T) (i:=i) k;rw[←Nat.add_assoc,kw];omega
theorem SQ {T:aQ}: ∀(k i:Nat),i+k=256→fC T i=fC T 256→iF T i=iF T 256∧sH T i=[]
 |0,i,hk,_=>by have:i=256:=by omega
               subst this;exact⟨rfl,rfl⟩
 |k+1,i,hk,h=>by
  cases hx:T.l i with
  |some x=>
   have h1:fC T (i+1)=fC T i+1:=by rw[kw,hx];rfl
   have h2:=y7 (T:=T) (i:=i+1) k
   rw[show i+1+k=256 by omega]at h2
   omega
  |none=>
   have hc:fC T (i+1)=fC T i:=by rw[kw,hx];rfl
   obtain⟨h4,h5⟩:=SQ (T:=T) k (i+1) (by omega) (by omega)
   exact⟨by rw[←h4,SN hx],by rw[CG (i:=i) (by omega),h5];simp[GK,hx]⟩
section
attribute [local simp] J0 J1 J2 J3 J4 J5 J6 J7 J8 J9 Ja Jb Jc Jd Je Jf Jg Jh Ji Jj Jk Jl Jm Jn Jo Jp Jq Jr Js Jt Ju Jv Jw Jx Jy Jz JA JB JC JD JE JF JG JH JI JJ JK JL JM JN JO JP JQ JR JS bE bO.kind JT JU JV JW JX JY JZ Y0 Y1 Y2 Y3 Y4 Y5 Y6 Y7 Y8 Y9 Ya Yb Yc Yd Ye Yf Yg Yh Yi Yj Yk Yl Ym Yn Yo Yp Yq j3 Yr Ys Yt Yu Yv Yw Yx Yy gy di dI Yz YA YB YC YD YE fq YF YG YH YI YJ YK YL YM YN YO YP YQ YR YS YT YU sP bS kF qm bZ putAt aa.aj aa.aT aa.aK YV YW YX YY YZ B0 B1 B2 B3 B4 B5 B6 B7 B8 B9 Ba Bb Bc Bd Be Bf Bg Bh Bi Bj Bk Bl Bm Bn Bo Bp
section
theorem qlo {C:List Value}{o:Nat}{x y:Value}(h:o+2≤C.length):putAt (putAt C o [x]) (o+1) [y]=putAt C o [x,y]:=by
 have h1:(putAt C o [x]).length=C.length:=gM (by simp;omega)
 apply List.ext_getElem?
 intro i
 rw[jH (by rw[h1];simp;omega),jH (by simp;omega),jH (by simp;omega)]
 simp only[List.length_cons,List.length_nil]
 by_cases a1:i<o
 ·rw[if_pos (by omega),if_pos a1,if_pos a1]
 ·by_cases a2:i=o
  ·subst a2;rw[if_pos (by omega),if_neg a1,if_neg a1,if_pos (by omega),if_pos (by omega),Nat.sub_self];rfl
  ·rw[if_neg a1,if_neg a1]
   by_cases a3:i=o+1
   ·subst a3;rw[if_neg (by omega),if_pos (by omega),if_pos (by omega)];simp
   ·rw[if_neg (by omega),if_neg (by omega),if_neg (by omega),if_neg (by omega)]
theorem VO {T:aQ}{n:Nat}{g:Int}{d:oN}(h:T.l n=some (g,d)):({(iF T n).put n (some (g,noL d))with total:=jZ T (n+1)}:aQ)=iF T (n+1):=by
 have e:((iF T n).put n (some (g,noL d))).l=(iF T (n+1)).l:=by
  funext m
  rw[MM h]
  rfl
 show(⟨T.gen,(jZ T (n+1):Int),((iF T n).put n (some (g,noL d))).l⟩:aQ)=iF T (n+1)
 rw[e]
 rfl
def okN:oN→Prop
 | .file s _=>s.length≤16384
 | .dir L=>dz L∧(∀e ∈ L,NJ e)∧L.length≤1000
section
variable (c:Ctx) (hc:dP c) (hC:eU c) (hD:bI c) (hX:pJ c) (hI:kS c) (hTy:c.Ty 14≠c.Ty 13) {H:aa} {K:Value→aa→Prop} {w:nu} {a:Nat→Nat} {p:Nat} {T:aQ}
include hc hC hD hX hI in
theorem qbh {n q last:Nat}{g:Int}{d:oN}{rest:List UInt8}(h:gu (c.Ty 14) (c.Ty 13) w a H p (iF T n))(hx:T.l n=some (g,d))(hn1:1≤n)(hn:n<256)(hl:last<n)(hg1:0≤g)(hg2:g≤1000000)(hd:okN d)(ht:jZ T n≤10000000)
 (hr:IQ H q (some (NN n (g,d)++rest))) (hq:w q=0)
 (hK: ∀w' a' H',H.next≤H'.next→(∀b,b<H.next→w b=0→b≠q→H'.get b=H.get b)→(∀b,b<H.next→w' b=w b)→IQ H' q (some rest)→gu (c.Ty 14) (c.Ty 13) w' a' H' p (iF T (n+1))→K (.tuple #[.int .i64 n,.bool true]) H'):
 c.C (c.F F8) [.pointer (some ⟨p,0,none⟩),.pointer (some ⟨q,0,none⟩),.int .i64 last] H K:=by
 refine c.enter hc.LP rfl ?_
 have hpq: ¬ p=q:=fun e=>by have:=h.own;rw[e,hq]at this;omega
 have hlt:=h.lt
 have hql:=hr.1
 have hrl:=hr.2.1
 have hdl:(eB d).length≤1000000:=by
  simp only[NH,NN,List.length_append]at hrl;omega
 have t1:bD (some (NN n (g,d)++rest))=(some (encI g++([UInt8.ofNat (qj d)]++((encI (eB d).length++eB d)++rest))),(n:Int)):=by
  unfold NN;simp only[List.append_assoc];exact iK (by omega) (by omega) _
 have t2:bD (some (encI g++([UInt8.ofNat (qj d)]++((encI (eB d).length++eB d)++rest))))=(some ([UInt8.ofNat (qj d)]++((encI (eB d).length++eB d)++rest)),g):=iK (by omega) (by omega) _
 have t3:uD (some ([UInt8.ofNat (qj d)]++((encI (eB d).length++eB d)++rest)))=(some ((encI (eB d).length++eB d)++rest),(qj d:Int)):=by cases d <;> rfl
 have t4:cB (some ((encI (eB d).length++eB d)++rest))=(some rest,eB d):=nk (by omega) _
 simp -implicitDefEqProofs [nS]
 refine ai (qC c hC hr fun H1 u1 r1=> ?_)
 rw[t1]at r1 ⊢
 simp -implicitDefEqProofs []
 refine ai (qC c hC r1 fun H2 u2 r2=> ?_)
 rw[t2]at r2 ⊢
 simp -implicitDefEqProofs []
 refine ai (Sr c hC r2 fun H3 u3 r3=> ?_)
 rw[t3]at r3 ⊢
 simp -implicitDefEqProofs []
 refine ai (xR c hC r3 fun H4 u4 r4=> ?_)
 rw[t4]at r4 ⊢
 have u04:=((u1.trans u2).trans u3).trans u4
 have n04:=u04.next
 have i4:gu (c.Ty 14) (c.Ty 13) w a H4 p (iF T n):=h.keep u04.next fun b hb h0=>u04.get b hb (by simp only[List.mem_singleton];rintro rfl;exact h0 hq)
 have hg:=i4.get
 have hlen:=aX (c.Ty 14) (c.Ty 13) a (iF T n)
 have hlI: ¬ (n:Int)≤(last:Int):=by omega
 have NM:(n:Int)<256:=by omega
 have qhY: ¬ (256:Int)≤(n:Int):=by omega
 have hnl: ¬ n≤last:=by omega
 have Ih: ¬ 256≤n:=by omega
 have hn2:n*2+2≤514:=by omega
 obtain⟨C1,hC1⟩: ∃C1,C1=putAt (aN (c.Ty 14) (c.Ty 13) a (iF T n)) (n*2) [.int .i64 g]:=⟨_,rfl⟩
 have l1:C1.length=514:=by rw[hC1,gM (by rw[hlen];simp;omega),hlen]
 have p1:List.take (n*2) (aN (c.Ty 14) (c.Ty 13) a (iF T n))++Value.int .i64 g::List.drop (n*2+1) (aN (c.Ty 14) (c.Ty 13) a (iF T n))=C1:=by rw[hC1];simp[putAt]
 have hp2: ∀x e,putAt C1 (n*2+1) [Dp (c.Ty 14) (c.Ty 13) x e]=aN (c.Ty 14) (c.Ty 13) (fun m=>if m=n then x else a m) ((iF T n).put n (some (g,e))):=fun x e=>by
  rw[hC1,qlo (by rw[hlen];omega)];exact GI hn
 cases d with
 |file s k=>
  simp only[eB,qj]at *
  have hs:s.length≤16384:=hd
  have p2:List.take (n*2+1) C1++Value.iface (c.Ty 14) (.pointer (some ⟨H4.next,0,none⟩))::List.drop (n*2+2) C1=aN (c.Ty 14) (c.Ty 13) (fun m=>if m=n then H4.next else a m) ((iF T n).put n (some (g,.file s 0))):=by
   rw[←hp2 H4.next (.file s 0)];simp[putAt,Dp]
  generalize U0:(iF T n).put n (some (g,oN.file s 0))=T2 at *
  have ht2:T2.total=(jZ T n:Int):=by rw[←U0];rfl
  obtain⟨a2,ha2⟩: ∃a2:Nat→Nat,a2=fun m=>if m=n then H4.next else a m:=⟨_,rfl⟩
  rw[←ha2]at p2
  have l2:=aX (c.Ty 14) (c.Ty 13) a2 T2
  have qeE:=yS (F:=c.Ty 14) (D:=c.Ty 13) (a:=a2) (T:=T2)
  rw[ht2]at qeE
  have qhZ:(aN (c.Ty 14) (c.Ty 13) a2 T2)[513]'(by rw[l2];omega) = .int .i64 (jZ T n):=by
   have:=qeE;rw[List.getElem?_eq_getElem (by rw[l2];omega)]at this;exact Option.some.inj this
  have hsz:jZ T (n+1)=jZ T n+s.length:=by rw[qH,vS,hx];rfl
  have w1:IntKind.i64.wrap ((jZ T n:Int)+(s.length:Int))=((jZ T (n+1):Nat):Int):=by rw[wrap64 (by omega) (by omega),hsz];omega
  have p3:List.take 513 (aN (c.Ty 14) (c.Ty 13) a2 T2)++Value.int .i64 (jZ T (n+1):Nat)::List.drop 514 (aN (c.Ty 14) (c.Ty 13) a2 T2)=aN (c.Ty 14) (c.Ty 13) a2 (iF T (n+1)):=by
   have e:=VO hx
   simp only[noL,U0]at e
   refine Eq.trans ?_ ((xW (T:=T2) ((jZ T (n+1):Nat):Int)).trans (congrArg _ e))
   simp[putAt]
  have hsI:(s.length:Int)≤16384:=by omega
  have e1: ¬ p=H4.next:=by omega
  have e2: ¬ H4.next=p:=by omega
  have hn3:n*2≤513:=by omega
  have hn4:n*2+1≤513:=by omega
  simp -implicitDefEqProofs [ak,hlI,NM,qhY,hnl,Ih,hn,hg,hlen,hn2,hn3,hn4,p1,l1,p2,l2,qeE,qhZ,w1,p3,hs,hsI,e1,e2]
  have qm: ¬ q=p:=fun e=>hpq e.symm
  have eq2: ¬ q=H4.next:=by have:=r4.1;omega
  refine hK (dZ w H4.next (H4.next+1) (n+2)) a2 _ ?_ (fun b hb h0 hbq=> ?_) (fun b hb=>yZ (by omega)) ⟨?_,r4.2.1,?_⟩ ?_
  ·simp only[YY,YX];omega
  ·have b1: ¬ b=p:=fun e=>by rw[e,h.own]at h0;omega
   have b2: ¬ b=H4.next:=by omega
   rw[←u04.get b hb (by simpa using hbq)]
   simp[YW,YV,YY,b1,b2]
  ·simp only[YY,YX];have:=r4.1;omega
  ·rw[←r4.2.2];simp[YW,YV,YY,qm,eq2]
  ·subst ha2
   refine gu.qhX ?_ i4 (T':=iF T (n+1)) (d:=.file s 0) (g:=g) ?_ (fun b hb _ hbp=> ?_) ⟨?_,?_,?_⟩ (MM hx) hn1 hn ?_
   ·rfl
   ·simp only[YY,YX];omega
   ·have b2: ¬ b=H4.next:=by omega
    simp[YW,YV,YY,hbp,b2]
   ·simp only[YY,YX];omega
   ·exact y5 (Nat.le_refl _) (by omega)
   ·simp[YW,YV,YY,e2,ak]
   ·simp[YW]
 |dir L=>
  simp only[eB,qj]at *
  obtain⟨hso,hok,hL⟩:=hd
  have hre:=UL hso hok (by omega)
  have hsz:jZ T (n+1)=jZ T n:=by rw[qH,vS,hx];rfl
  have hn3:n*2≤513:=by omega
  have hn4:n*2+1≤513:=by omega
  simp -implicitDefEqProofs [hlI,NM,qhY,hnl,Ih,hn,hg,hlen,hn2,hn3,hn4,p1,l1]
  refine ai (qaU c hD hC hX hI (by omega) (fun e=>by rw[hre]at e;cases e) fun L' y z H6 e6 k6 hy hz hLl ho6 d6=> ?_)
  rw[hre]at e6
  injection e6 with e6
  subst e6
  simp only[YY]at hy hz
  have n6:=k6.next
  simp only[YY]at n6
  have g6:H6.get p=some (.cells C1 false):=by rw[k6.get p (by simp only[YY];omega)];simp[YW]
  have p2:List.take (n*2+1) C1++Value.iface (c.Ty 13) (.agg #[.pointer (some ⟨y,0,none⟩)])::List.drop (n*2+2) C1=aN (c.Ty 14) (c.Ty 13) (fun m=>if m=n then y else a m) (iF T (n+1)):=by
   have e:=VO hx
   rw[hsz]at e
   have e':(iF T n).put n (some (g,.dir L))=iF T (n+1):=e
   rw[←e',←hp2 y (.dir L)];simp[putAt,Dp]
  obtain⟨a2,ha2⟩: ∃a2:Nat→Nat,a2=fun m=>if m=n then y else a m:=⟨_,rfl⟩
  rw[←ha2]at p2
  simp -implicitDefEqProofs [NM,hn,hn2,hn3,hn4,g6,l1,p2]
  have hyl:=d6.lt
  have qm: ¬ q=p:=fun e=>hpq e.symm
  have r4l:=r4.1
  refine hK (dZ w H4.next H6.next (n+2)) a2 _ ?_ (fun b hb h0 hbq=> ?_) (fun b hb=>yZ (by omega)) ⟨?_,r4.2.1,?_⟩ ?_
  ·simp only[YY];omega
  ·have b1: ¬ b=p:=fun e=>by rw[e,h.own]at h0;omega
   rw[←u04.get b hb (by simpa using hbq)]
   have:=k6.get b (by simp only[YY];omega)
   simp[YW,b1]at this ⊢
   exact this
  ·simp only[YY];omega
  ·have:=k6.get q (by simp only[YY];omega)
   rw[←r4.2.2]
   simp[YW,qm]at this ⊢
   exact this
  ·subst ha2
   have dF: ∀X:List Value,NK (H6.set p (.cells X false)) y z L:=fun X=>d6.upd (S:=[p]) ((aa.jA _ _).set (.inr (by simp)) _) (by simp;omega) (by simp;omega)
   refine gu.qhX ?_ i4 (T':=iF T (n+1)) (d:=.dir L) (g:=g) ?_ (fun b hb _ hbp=> ?_) ⟨fun b hb=>hb.1,fun hb=>hb.2 ?_,z,dF _,fun hb=>hb.2 ?_⟩ (MM hx) hn1 hn ?_
   ·rfl
   ·simp only[YY];omega
   ·have:=k6.get b (by simp only[YY];omega)
    simp[YW,hbp]at this ⊢
    exact this
   ·exact y5 hy (by omega)
   ·have:=hb.1
    exact y5 hz this
   ·simp[YW]
end
end
section
theorem MN {L:List aP}{i:Nat}{e:aP}(hs:dz L)(hi:L[i]? =some e):bF L e.nm=(e.ino,0):=by
 have hp:dW e.nm L=i:=by
  have hle:=yR e.nm L
  obtain⟨hlt,hget⟩:=List.getElem?_eq_some_iff.1 hi
  rcases Nat.lt_trichotomy (dW e.nm L) i with h|h|h
  ·have h1:L[dW e.nm L]? =some L[dW e.nm L]:=List.getElem?_eq_getElem (by omega)
   have h2:=EM h1
   have h3:=List.pairwise_iff_getElem.1 hs (dW e.nm L) i (by omega) hlt h
   rw[hget]at h3
   rw[h2]at h3;cases h3
  ·exact h
  ·have h1:=Kh h hi
   rw[oK]at h1;cases h1
 unfold bF iE NI
 rw[hp,hi]
 simp
def dE (T:aQ)(n:Nat):List aP:=(aS T n).getD []
def cE (L:List aP)(k:Nat):Nat:=L.countP fun e=>decide (e.ino=(k:Int))
def bG (T:aQ)(i k:Nat):Nat:=((List.range i).map fun n=>cE (dE T n) k).sum
theorem x8 (T:aQ)(i k:Nat):bG T (i+1) k=bG T i k+cE (dE T i) k:=by
 unfold bG;rw[List.range_succ,List.map_append,List.sum_append];simp
def rJ (f:Nat→Nat):List Value:=(List.range 256).map fun k=>.int .i64 (f k:Nat)
theorem vT {f:Nat→Nat}{k:Nat}(h:k<256):(rJ f)[k]? =some (.int .i64 (f k:Nat)):=by simp[rJ,h]
theorem uJ (f:Nat→Nat):(rJ f).length=256:=by simp[rJ]
theorem qbi {f:Nat→Nat}{k y:Nat}(h:k<256):putAt (rJ f) k [.int .i64 (y:Nat)]=rJ fun i=>if i=k then y else f i:=by
 apply List.ext_getElem?
 intro i
 rw[jH (by rw[uJ];simp;omega)]
 simp only[List.length_cons,List.length_nil]
 by_cases hi:i<256
 ·rw[vT hi,vT hi]
  by_cases h1:i=k
  ·subst h1;rw[if_neg (by omega),if_pos (by omega),if_pos rfl,Nat.sub_self];rfl
  ·rw[if_neg h1]
   by_cases h2:i<k
   ·rw[if_pos h2]
   ·rw[if_neg h2,if_neg (by omega)]
 ·rw[if_neg (by omega),if_neg (by omega),List.getElem?_eq_none (by rw[uJ];omega),List.getElem?_eq_none (by rw[uJ];omega)]
theorem XJ (T:aQ):List.map (fun x=>[Value.int .i64 0][x % 1]?.getD default) (List.range 256)=rJ (bG T 0):=List.map_congr_left fun x _=>by rw[Nat.mod_one];rfl
theorem qbj (L:List aP)(k:Nat):cE L k≤L.length:=List.countP_le_length
theorem qcV (L:List aP)(e:aP)(k:Nat):cE (L++[e]) k=cE L k+if (e.ino=(k:Int))then 1 else 0:=by
 unfold cE
 rw[List.countP_append,List.countP_singleton]
 by_cases h:e.ino=(k:Int) <;> simp[h]
structure SS (T:aQ):Prop where
 dir: ∀n L,aS T n=some L→dz L∧(∀e ∈ L,NJ e)∧L.length≤1000
 here: ∀n L,aS T n=some L→∀e ∈ L,∃x,T.l e.ino.toNat=some x
theorem OT {T:aQ}(hT:SS T)(k:Nat): ∀i,bG T i k≤i*1000
 |0=>by simp[bG]
 |i+1=>by
  have:=OT hT k i
  rw[x8]
  have h2:cE (dE T i) k≤1000:=by
   refine Nat.le_trans (qbj _ _) ?_
   unfold dE
   cases hd:aS T i with
   |none=>simp
   |some L=>exact(hT.dir i L hd).2.2
  omega
section
variable (c:Ctx) (hc:dP c) (hC:eU c) (hD:bI c) (hX:pJ c) (hI:kS c) (hTy:c.Ty 14≠c.Ty 13) {H:aa} {K:Value→aa→Prop} {w:nu} {a:Nat→Nat} {p:Nat} {T:aQ}
include hD in
theorem qbk (hK:K (.slice none 0 0) H):c.C (c.F lG) [.pointer none] H K:=by
 refine c.enter hD.Af rfl ?_
 simp -implicitDefEqProofs [lH,aU]
 exact hK
include hc hD hTy in
theorem XK (h:gu (c.Ty 14) (c.Ty 13) w a H p T)(hT:SS T)
 (hK: ∀H',H.le H'→H.next<H'.next→H'.get H.next=some (.cells (rJ (bG T 256)) false)→K (.tuple #[.slice (some ⟨H.next,0,none⟩) 256 256,.bool true]) H'):
 c.C (c.F Es) [.pointer (some ⟨p,0,none⟩)] H K:=by
 refine c.enter hc.Iz rfl ?_
 have hlt:=h.lt
 simp -implicitDefEqProofs [mV]
 refine cz c.mono (fun k E H'=> ∃i:Nat,i≤256∧k=256-i∧E 0 = .pointer (some ⟨p,0,none⟩)∧E 4 = .slice (some ⟨H.next,0,none⟩) 256 256∧E 12 = .int .i64 i∧H.next<H'.next∧H.le H'∧H'.get H.next=some (.cells (rJ (bG T i)) false)) 256 ?_ ?_
 ·refine⟨0,by omega,rfl,?_⟩
  simp -implicitDefEqProofs []
  exact⟨H.ax _,XJ T⟩
 ·rintro k E G ⟨i,hi,rfl,t0,t4,t12,hn,hle,hg⟩
  by_cases hil:i<256
  ·have fO:(i:Int)<256:=by omega
   have hw:IntKind.i64.wrap ((i:Int)+1)=(i:Int)+1:=wrap64 (by omega) (by omega)
   simp -implicitDefEqProofs [t0,t4,t12,hil,fO]
   refine ai (si c hc hTy (h.le hle) hil fun H1 k1=> ?_)
   have k01:=hle.trans k1
   have hlist: ∀K2:Value→aa→Prop,(∀v H2,H1.le H2→Fs H2 1 v ((dE T i).map fun e=>nH e.nm)→K2 v H2)→c.C (c.F lG) [IR (aS T i).isSome (a i)] H1 K2:=by
    intro K2 h2
    unfold dE at h2
    cases hd:aS T i with
    |none=>
     rw[hd]at h2
     exact qbk c hD (h2 _ _ (aa.le_refl _) (Grow.nil _ 0 1).Qp)
    |some L=>
     rw[hd]at h2
     exact UM c hD ((h.le k01).dir hd) (by have:=(hT.dir i L hd).2.2;omega) fun v H2 k2 g2=>h2 _ _ k2 g2.Qp
   have hdl:(dE T i).length≤1000:=by
    unfold dE
    cases hd:aS T i with
    |none=>simp
    |some L=>exact(hT.dir i L hd).2.2
   generalize hP:IR (aS T i).isSome (a i)=P at *
   simp -implicitDefEqProofs []
   refine ai (hlist _ fun v H2 k2 s2=> ?_)
   have IW:=k01.trans k2
   have g02:=((k1.trans k2).get H.next hn).trans hg
   have n02:H.next<H2.next:=Nat.lt_of_lt_of_le hn (k1.trans k2).next
   have s2':=s2
   obtain⟨a0,cap,rfl,_⟩:=s2
   simp only[List.length_map]at s2' ⊢
   generalize hL:dE T i=L at *
   simp -implicitDefEqProofs [t0,t4,t12]
   refine cz c.mono (fun k E H'=> ∃j:Nat,j≤L.length∧k=L.length-j∧E 0 = .pointer (some ⟨p,0,none⟩)∧E 4 = .slice (some ⟨H.next,0,none⟩) 256 256∧E 12 = .int .i64 i∧E 6=P∧E 19 = .slice a0 L.length cap∧E 20 = .int .i64 L.length∧E 21 = .int .i64 j∧H2.next≤H'.next∧(∀b,b<H2.next→b≠H.next→H'.get b=H2.get b)∧H'.get H.next=some (.cells (rJ fun k=>bG T i k+cE (L.take j) k) false)) L.length ?_ ?_
   ·refine⟨0,by omega,rfl,?_⟩
    simp -implicitDefEqProofs [t0,t4,t12]
    simpa[cE]using g02
   ·clear t0 t4 t12
    rintro k E G ⟨j,hj,rfl,t0,t4,t12,t6,t19,t20,t21,hn3,hfr,hg3⟩
    have hle3:H.le G:=⟨by omega,fun b hb=>(hfr b (by omega) (by omega)).trans (IW.get b hb)⟩
    by_cases hjl:j<L.length
    ·have MO:(j:Int)<(L.length:Int):=by omega
     have hwj:IntKind.i64.wrap ((j:Int)+1)=(j:Int)+1:=wrap64 (by omega) (by omega)
     obtain⟨e,he⟩: ∃e,L[j]? =some e:=⟨L[j],List.getElem?_eq_getElem hjl⟩
     have hd:aS T i=some L:=by
      unfold dE at hL
      cases hd:aS T i with
      |none=>rw[hd]at hL;simp at hL;subst hL;simp at hjl
      |some L'=>rw[hd]at hL;simp at hL;rw[hL]
     obtain⟨hso,hok,hL1⟩:=hT.dir i L hd
     have hem:=List.mem_of_getElem? he
     obtain⟨x,hx⟩:=hT.here i L hd e hem
     obtain⟨_,ei1,ei2⟩:=hok e hem
     obtain⟨m,hm⟩: ∃m:Nat,e.ino=(m:Int):=⟨e.ino.toNat,by omega⟩
     rw[hm,Int.toNat_natCast]at hx
     have hlk:=MN hso he
     rw[hm]at hlk
     have MP:m<256:=by omega
     have hmI:(m:Int)<256:=by omega
     rw[hd]at hP
     simp only[Option.isSome_some,IR]at hP
     obtain⟨b,o,cp,cs,ro,q1,hb,hget,hrow⟩:=s2'.at1 (i:=j) (x:=ak e.nm) (by simp[he,nH])
     rw[List.length_map]at q1
     simp only[Value.slice.injEq]at q1
     obtain⟨rfl,-,rfl⟩:=q1
     by_cases hbN:b=H.next
     ·subst hbN
      rw[g02]at hget
      simp only[Option.some.injEq,dU.cells.injEq]at hget
      obtain⟨rfl,rfl⟩:=hget
      by_cases hoj:o+j<256
      ·rw[vT hoj]at hrow;cases hrow
      ·rw[List.getElem?_eq_none (by rw[uJ];omega)]at hrow;cases hrow
     have qbl:=(hfr b hb hbN).trans hget
     subst hP
     simp -implicitDefEqProofs [t0,t4,t12,t6,t19,t20,t21,hjl,MO,qbl,hrow]
     refine ai (Qx c hD ((h.le hle3).dir hd) (by omega) fun H4 k4=> ?_)
     rw[hlk]
     have i4:=(h.le (hle3.trans k4))
     have hg4:=i4.get
     have hc4:=(k4.get H.next (by omega)).trans hg3
     have VP:=oO (F:=c.Ty 14) (D:=c.Ty 13) (a:=a) (T:=T) MP
     unfold dH at VP
     rw[hx]at VP
     simp only[Option.elim_some]at VP
     have hnil:aU 4 (Dp (c.Ty 14) (c.Ty 13) (a m) x.2)=some false:=by cases x.2 <;> rfl
     have hlen:=aX (c.Ty 14) (c.Ty 13) a T
     have hcm:=vT (f:=fun k=>bG T i k+cE (L.take j) k) MP
     have hcl:=uJ fun k=>bG T i k+cE (L.take j) k
     have hb1:=OT hT m i
     have hb2:=qbj (L.take j) m
     have hb3:(L.take j).length≤1000:=by rw[List.length_take];omega
     obtain⟨y,hy⟩: ∃y,y=bG T i m+cE (L.take j) m:=⟨_,rfl⟩
     have hw4:IntKind.i64.wrap ((y:Int)+1)=((y+1:Nat):Int):=by rw[wrap64 (by omega) (by omega)];omega
     obtain⟨z,hz⟩: ∃z,z=y+1:=⟨_,rfl⟩
     rw[←hz]at hw4
     obtain⟨Cn,hCn⟩: ∃Cn,Cn=rJ fun k=>bG T i k+cE (L.take j) k:=⟨_,rfl⟩
     have hput:List.take m Cn++Value.int .i64 (z:Nat)::List.drop (m+1) Cn=rJ fun k=>bG T i k+cE (L.take (j+1)) k:=by
      have e1:=qbi (f:=fun k=>bG T i k+cE (L.take j) k) (k:=m) (y:=z) MP
      rw[←hCn]at e1
      refine Eq.trans (by simp[putAt]) (e1.trans ?_)
      refine congrArg rJ (funext fun k=> ?_)
      rw[List.take_add_one,he]
      simp only[Option.toList_some]
      rw[qcV,hm]
      by_cases hkm:k=m
      ·subst hkm;rw[if_pos rfl,if_pos rfl];omega
      ·rw[if_neg hkm,if_neg (by omega)];omega
     have hcm':Cn[m]? =some (.int .i64 (y:Nat)):=by rw[hCn,hy];exact hcm
     have hcl':Cn.length=256:=by rw[hCn];exact hcl
     rw[←hCn]at hc4
     have qlp:Cn[m]'(by omega) = .int .i64 (y:Nat):=by
      have:=hcm';rw[List.getElem?_eq_getElem (by omega)]at this;exact Option.some.inj this
     have hm0:m+1≤256:=by omega
     have hm1:m≤255:=by omega
     simp -implicitDefEqProofs [t0,t4,t12,t6,t19,t20,t21,hmI,MP,hg4,VP,hnil,hc4,hcm',qlp,hcl',hw4,hput,hwj,hm1]
     refine⟨L.length-(j+1),by omega,j+1,by omega,rfl,by simp,Nat.le_trans hn3 k4.next,fun b' hb' hne=> ?_,rfl⟩
     rw[if_neg hne,k4.get b' (by omega),hfr b' hb' hne]
    ·have MO: ¬ (j:Int)<(L.length:Int):=by omega
     have:j=L.length:=by omega
     subst this
     rw[List.take_of_length_le (Nat.le_refl _)]at hg3
     simp -implicitDefEqProofs [t0,t4,t12,t6,t19,t20,t21,hjl,MO,hw]
     refine⟨256-(i+1),by omega,i+1,by omega,rfl,by simp,by omega,hle3,?_⟩
     rw[hg3]
     exact congrArg (fun f=>some (dU.cells (rJ f) false)) (funext fun k=>by rw[x8,hL])
  ·have fO: ¬ (i:Int)<256:=by omega
   have:i=256:=by omega
   subst this
   simp -implicitDefEqProofs [t0,t4,t12,hil,fO]
   exact hK _ hle hn hg
end
end
section
def SV (T:aQ)(R:Nat→Nat)(L:List aP):Nat:=(L.map fun e=>if (aS T e.ino.toNat).isSome then R e.ino.toNat else 0).sum
structure qbm (T:aQ)(rch:Nat→Prop)(R:Nat→Nat):Prop where
 step: ∀n L,rch n→aS T n=some L→R n=1+SV T R L
 sub: ∀n L e,rch n→aS T n=some L→e ∈ L→(aS T e.ino.toNat).isSome=true→rch e.ino.toNat
 le: ∀n,R n≤256
theorem qbn (T:aQ)(R:Nat→Nat)(L:List aP)(e:aP):SV T R (L++[e])=SV T R L+if (aS T e.ino.toNat).isSome then R e.ino.toNat else 0:=by
 unfold SV;rw[List.map_append,List.sum_append];simp
theorem SX (T:aQ)(R:Nat→Nat)(L:List aP)(j:Nat):SV T R (L.take j)≤SV T R L:=by
 conv=>rhs;rw[←List.take_append_drop j L]
 unfold SV;rw[List.map_append,List.sum_append];omega
section
variable (c:Ctx) (hc:dP c) (hD:bI c) (hTy:c.Ty 14≠c.Ty 13) {w:nu} {a:Nat→Nat} {p:Nat} {T:aQ}
include hc hD hTy in
theorem SY (hT:SS T){rch:Nat→Prop}{R:Nat→Nat}(hR:qbm T rch R): ∀(N n:Nat) (L:List aP) (H:aa) (K:Value→aa→Prop),R n=N→rch n→aS T n=some L→n<256→gu (c.Ty 14) (c.Ty 13) w a H p T →
 (∀H',H.le H'→K (.int .i64 (R n:Nat)) H')→c.C (c.F zF) [.pointer (some ⟨p,0,none⟩),.int .i64 n] H K:=by
 intro N
 induction N using Nat.strongRecOn with
 |_ N ih=>
 intro n L H K hN hr hd hn h hK
 refine c.enter hc.EC rfl ?_
 have hst:=hR.step n L hr hd
 have hle:=hR.le n
 obtain⟨hso,hok,hL1⟩:=hT.dir n L hd
 simp -implicitDefEqProofs [kR]
 refine ai (si c hc hTy h hn fun H1 k1=> ?_)
 rw[hd]
 simp only[Option.isSome_some,IR]
 simp -implicitDefEqProofs []
 refine ai (UM c hD ((h.le k1).dir hd) (by omega) fun v H2 k2 g2=> ?_)
 have IW:=k1.trans k2
 have s2:=g2.Qp
 obtain⟨a0,cap,rfl⟩:=g2.len
 simp only[List.length_map]at s2 ⊢
 simp -implicitDefEqProofs []
 refine cz c.mono (fun k E H'=> ∃j:Nat,j≤L.length∧k=L.length-j∧E 0 = .pointer (some ⟨p,0,none⟩)∧E 5 = .pointer (some ⟨a n,0,none⟩)∧E 15 = .slice a0 L.length cap∧E 16 = .int .i64 L.length∧E 17 = .int .i64 j∧E 6 = .int .i64 ((1+SV T R (L.take j):Nat):Int)∧H2.le H') L.length ?_ ?_
 ·refine⟨0,by omega,rfl,?_⟩
  simp -implicitDefEqProofs []
  exact⟨by simp[SV],aa.le_refl _⟩
 ·rintro k E G ⟨j,hj,rfl,t0,t5,t15,t16,t17,t6,hle2⟩
  have hle3:=IW.trans hle2
  have htk:=SX T R L j
  by_cases hjl:j<L.length
  ·have MO:(j:Int)<(L.length:Int):=by omega
   have hwj:IntKind.i64.wrap ((j:Int)+1)=(j:Int)+1:=wrap64 (by omega) (by omega)
   obtain⟨e,he⟩: ∃e,L[j]? =some e:=⟨L[j],List.getElem?_eq_getElem hjl⟩
   have hem:=List.mem_of_getElem? he
   obtain⟨_,ei1,ei2⟩:=hok e hem
   obtain⟨m,hm⟩: ∃m:Nat,e.ino=(m:Int):=⟨e.ino.toNat,by omega⟩
   have hlk:=MN hso he
   have hsub:=hR.sub n L e hr hd hem
   have hsn:SV T R (L.take (j+1))=SV T R (L.take j)+if (aS T m).isSome then R m else 0:=by
    rw[List.take_add_one,he]
    simp only[Option.toList_some]
    rw[qbn,hm,Int.toNat_natCast]
   have qlH:=SX T R L (j+1)
   rw[hm]at hlk hsub
   rw[Int.toNat_natCast]at hsub
   have MP:m<256:=by omega
   obtain⟨b,o,cp,cs,ro,q1,hb,hget,hrow⟩:=s2.at1 (i:=j) (x:=ak e.nm) (by simp[he,nH])
   rw[List.length_map]at q1
   simp only[Value.slice.injEq]at q1
   obtain⟨rfl,-,rfl⟩:=q1
   have qbl:=(hle2.get b hb).trans hget
   simp -implicitDefEqProofs [t0,t5,t15,t16,t17,hjl,MO,qbl,hrow]
   refine ai (Qx c hD ((h.le hle3).dir hd) (by omega) fun H4 k4=> ?_)
   rw[hlk]
   simp -implicitDefEqProofs [t0]
   refine ai (si c hc hTy (h.le (hle3.trans k4)) MP fun H5 k5=> ?_)
   have k05:=(hle3.trans k4).trans k5
   obtain⟨S,hS⟩: ∃S:Nat,S=1+SV T R (L.take j):=⟨_,rfl⟩
   rw[←hS]at t6
   cases hdm:aS T m with
   |none=>
    rw[hdm]at hsn
    simp only[Option.isSome_none,Bool.false_eq_true,if_false,Nat.add_zero]at hsn
    simp only[Option.isSome_none,IR]
    simp -implicitDefEqProofs [aU,t0,t5,t6,t15,t16,t17,hwj]
    exact⟨L.length-(j+1),by omega,j+1,by omega,rfl,by simp,by rw[hsn];omega,(hle2.trans k4).trans k5⟩
   |some M=>
    rw[hdm]at hsn hsub
    simp only[Option.isSome_some,if_true]at hsn
    simp only[Option.isSome_some,IR]
    simp -implicitDefEqProofs [aU,t0,t5,t6,t15,t16,t17]
    refine ai (ih (R m) (by omega) m M H5 _ rfl (hsub rfl) hdm MP (h.le k05) fun H6 k6=> ?_)
    have hws:IntKind.i64.wrap ((S:Int)+(R m:Int))=((1+SV T R (L.take (j+1)):Nat):Int):=by rw[wrap64 (by omega) (by omega)];omega
    simp -implicitDefEqProofs [aU,t0,t5,t6,t15,t16,t17,hws,hwj]
    exact⟨L.length-(j+1),by omega,j+1,by omega,rfl,by simp,by simp,((hle2.trans k4).trans k5).trans k6⟩
  ·have MO: ¬ (j:Int)<(L.length:Int):=by omega
   have:j=L.length:=by omega
   subst this
   rw[List.take_of_length_le (Nat.le_refl _),←hst]at t6
   simp -implicitDefEqProofs [t0,t5,t6,t15,t16,t17,hjl,MO]
   exact hK _ hle3
end
end
end
section
section
variable {κ α:Type} [DecidableEq κ]
structure wm (P:Program)(kt:TypeId)(f:κ→Value):Prop where
 eq: ∀a b,aD P (Op.equal kt (f a) (f b))=some (decide (a=b))
 ck: ∀e a,(aD P (Instr.checkKey e 10000 kt (f a))).isSome=true
 sc: ∀a,nL (f a)=true
 sb: ∀a,Instr.sameBits 10000 (f a) (f a)=true
def qw (l:List (κ×α))(k:κ):Option α:=(l.find? fun p=>decide (p.1=k)).map (·.2)
theorem ig (p:κ×α)(l:List (κ×α))(k:κ):qw (p::l) k=if p.1=k then some p.2 else qw l k:=by
 unfold qw
 rw[List.find?_cons]
 by_cases h:p.1=k <;> simp[h]
theorem QG (l:List (κ×α))(k k':κ)(a:α)(h:qw l k=none):qw (l++[(k,a)]) k'=if k=k' then some a else qw l k':=by
 induction l with
 |nil=>rw[List.nil_append,ig]
 |cons p l ih=>
  rw[ig]at h
  by_cases hp:p.1=k
  ·rw[if_pos hp]at h;cases h
  ·rw[if_neg hp]at h
   rw[List.cons_append,ig,ig,ih h]
   by_cases h1:p.1=k'
   ·rw[if_pos h1,if_pos h1,if_neg (by rintro rfl;exact hp h1)]
   ·rw[if_neg h1,if_neg h1]
theorem U1 {l:List (κ×α)}{k:κ}(h:qw l k=none):k ∉ l.map (·.1):=by
 induction l with
 |nil=>simp
 |cons p l ih=>
  rw[ig]at h
  by_cases hp:p.1=k
  ·rw[if_pos hp]at h;cases h
  ·rw[if_neg hp]at h
   simp only[List.map_cons,List.mem_cons,not_or]
   exact⟨fun h=>hp h.symm,ih h⟩
def nC (l:List (κ×α))(k:κ):Option Nat:=l.findIdx? fun p=>decide (p.1=k)
theorem MQ {l:List (κ×α)}{k:κ}{i:Nat}(h:nC l k=some i): ∃a,l[i]? =some (k,a)∧qw l k=some a:=by
 induction l generalizing i with
 |nil=>simp[nC]at h
 |cons p l ih=>
  unfold nC at h
  rw[List.findIdx?_cons]at h
  by_cases hp:p.1=k
  ·simp only[hp,decide_true]at h
   simp only[if_true,Option.some.injEq]at h
   subst h
   exact⟨p.2,by simp[←hp],by rw[ig,if_pos hp]⟩
  ·simp only[hp,decide_false,Bool.false_eq_true,if_false,Option.map_eq_some_iff]at h
   obtain⟨j,hj,rfl⟩:=h
   obtain⟨a,h1,h2⟩:=ih hj
   exact⟨a,by simpa using h1,by rw[ig,if_neg hp];exact h2⟩
theorem CJ {l:List (κ×α)}{k:κ}(h:nC l k=none):qw l k=none:=by
 unfold nC at h
 unfold qw
 rw[List.findIdx?_eq_none_iff]at h
 rw[Option.map_eq_none_iff,List.find?_eq_none]
 intro x hx
 have:=h x hx
 simp at this ⊢;exact this
theorem QH {l:List (κ×α)}{k:κ}{i:Nat}(h:nC l k=some i)(a:α)(k':κ):qw (l.modify i fun _=>(k,a)) k'=if k=k' then some a else qw l k':=by
 induction l generalizing i with
 |nil=>simp[nC]at h
 |cons p l ih=>
  unfold nC at h
  rw[List.findIdx?_cons]at h
  by_cases hp:p.1=k
  ·simp only[hp,decide_true]at h
   simp only[if_true,Option.some.injEq]at h
   subst h
   rw[List.modify_zero_cons,ig,ig,hp]
   by_cases h1:k=k' <;> simp[h1]
  ·simp only[hp,decide_false,Bool.false_eq_true,if_false,Option.map_eq_some_iff]at h
   obtain⟨j,hj,rfl⟩:=h
   rw[List.modify_succ_cons,ig,ig,ih hj]
   by_cases h1:p.1=k'
   ·rw[if_pos h1,if_pos h1,if_neg (by rintro rfl;exact hp h1)]
   ·rw[if_neg h1,if_neg h1]
theorem NP {l:List (κ×α)}{k:κ}{i:Nat}(h:nC l k=some i)(a:α):(l.modify i fun _=>(k,a)).map (·.1)=l.map (·.1):=by
 induction l generalizing i with
 |nil=>simp[nC]at h
 |cons p l ih=>
  unfold nC at h
  rw[List.findIdx?_cons]at h
  by_cases hp:p.1=k
  ·simp only[hp,decide_true]at h
   simp only[if_true,Option.some.injEq]at h
   subst h
   rw[List.modify_zero_cons,List.map_cons,List.map_cons,hp]
  ·simp only[hp,decide_false,Bool.false_eq_true,if_false,Option.map_eq_some_iff]at h
   obtain⟨j,hj,rfl⟩:=h
   rw[List.modify_succ_cons,List.map_cons,List.map_cons,ih hj]
def tH (es:List MapEntry)(clock:Nat):Prop:=(es.map (·.born)).Nodup∧∀e ∈ es,e.born<clock
theorem tH.add {es:List MapEntry}{clock:Nat}(h:tH es clock)(k v:Value):tH (es++[{key:=k,val:=v,born:=clock}]) (clock+1):=by
 refine⟨?_,fun e he=> ?_⟩
 ·rw[List.map_append,List.nodup_append]
  refine⟨h.1,by simp,fun x hx y hy=> ?_⟩
  obtain⟨e,he,rfl⟩:=List.mem_map.1 hx
  simp only[List.map_cons,List.map_nil,List.mem_singleton]at hy
  subst hy
  exact Nat.ne_of_lt (h.2 e he)
 ·rcases List.mem_append.1 he with he|he
  ·exact Nat.lt_succ_of_lt (h.2 e he)
  ·simp only[List.mem_singleton]at he
   subst he
   exact Nat.lt_succ_self _
theorem wo {A B:Type}(F:A→B)(x:A→A)(hx: ∀e,F (x e)=F e): ∀(l:List A) (i:Nat),(l.modify i x).map F=l.map F
 |[],i=>by simp
 |e::l,0=>by simp[hx]
 |e::l,i+1=>by rw[List.modify_succ_cons,List.map_cons,List.map_cons,wo F x hx l i]
theorem tH.modify {es:List MapEntry}{clock:Nat}(h:tH es clock)(x:MapEntry→MapEntry)(hx: ∀e,(x e).born=e.born)(i:Nat):tH (es.modify i x) clock:=by
 have hm:(es.modify i x).map (·.born)=es.map (·.born):=wo _ x hx es i
 refine⟨by rw[hm];exact h.1,fun e he=> ?_⟩
 have:e.born ∈ (es.modify i x).map (·.born):=List.mem_map.2 ⟨e,he,rfl⟩
 rw[hm]at this
 obtain⟨e',h1,h2⟩:=List.mem_map.1 this
 rw[←h2];exact h.2 e' h1
theorem tH.erase {es:List MapEntry}{clock:Nat}(h:tH es clock)(i:Nat):tH (es.eraseIdx i) clock:=
 ⟨h.1.sublist ((List.eraseIdx_sublist es i).map _),fun e he=>h.2 e ((List.eraseIdx_sublist es i).subset he)⟩
def vU (H:aa)(r:Nat)(f:κ→Value)(g:α→Value)(l:List (κ×α)):Prop:=
 r<H.next∧(∃es clock,H.get r=some (.map es clock)∧es.map (fun e=>(e.key,e.val))=(l.map fun p=>(f p.1,g p.2))∧tH es clock)∧(l.map (·.1)).Nodup
def IsMap (H:aa)(r:Nat)(f:κ→Value)(g:α→Value)(m:κ→Option α):Prop:=∃l,vU H r f g l∧∀k,qw l k=m k
variable {P:Program} {kt:TypeId} {f:κ→Value} {g:α→Value} {H:aa} {r:Nat}
theorem MR (hk:wm P kt f)(k:κ): ∀(es:List MapEntry) (l:List (κ×α)) (i:Nat),es.map (fun e=>(e.key,e.val))=(l.map fun p=>(f p.1,g p.2))→mE P kt (f k) es i=some ((nC l k).map (· +i))
 |[],[],i,_=>rfl
 |[],_::_,_,h=>by simp at h
 |_::_,[],_,h=>by simp at h
 |e::es,p::l,i,h=>by
  simp only[List.map_cons,List.cons.injEq,Prod.mk.injEq]at h
  obtain⟨⟨h1,h2⟩,h3⟩:=h
  rw[mE,h1,hk.eq]
  unfold nC
  rw[List.findIdx?_cons]
  by_cases hp:p.1=k
  ·simp[hp]
  ·have hp': ¬ k=p.1:=fun h=>hp h.symm
   simp only[hp,hp',decide_false,Bool.false_eq_true,if_false]
   rw[MR hk k es l (i+1) h3]
   unfold nC
   simp only[Option.map_map]
   congr 2
   funext x
   simp;omega
theorem S9 (hk:wm P kt f)(k:κ): ∀{es:List MapEntry} {l:List (κ×α)},es.map (fun e=>(e.key,e.val))=(l.map fun p=>(f p.1,g p.2))→tO P kt (f k) es=true:=by
 intro es l h
 have hs:es.all (fun e=>nL e.key)=true:=by
  rw[List.all_eq_true]
  intro e he
  have:(e.key,e.val) ∈ l.map fun p=>(f p.1,g p.2):=by rw[←h];exact List.mem_map.2 ⟨e,he,rfl⟩
  obtain⟨p,_,hp⟩:=List.mem_map.1 this
  simp only[Prod.mk.injEq]at hp
  rw[←hp.1];exact hk.sc _
 simp only[tO,hk.sc,hs,hk.ck,Bool.and_self]
theorem vU.look {l:List (κ×α)}(h:vU H r f g l)(hk:wm P kt f)(k:κ)(zero:Value)(ok:Bool):
 Ru P H kt zero ok (.map (some r)) (f k)=some (match qw l k with
  |some a=>if ok then .tuple #[g a,.bool true]else g a
  |none=>if ok then .tuple #[zero,.bool false]else zero):=by
 obtain⟨_,⟨es,clock,h1,h2,_⟩,_⟩:=h
 simp only[Ru,mF,h1,S9 hk k h2,if_true,MR hk k es l 0 h2]
 cases hi:nC l k with
 |none=>simp only[Option.map_none,CJ hi]
 |some i=>
  obtain⟨a,e1,e2⟩:=MQ hi
  have:(es.map fun e=>(e.key,e.val))[i]? =some (f k,g a):=by rw[h2,List.getElem?_map,e1];rfl
  rw[List.getElem?_map]at this
  simp only[Option.map_some,Nat.add_zero,e2]
  cases he:es[i]? with
  |none=>rw[he]at this;simp at this
  |some e=>
   rw[he]at this
   simp only[Option.map_some,Option.some.injEq,Prod.mk.injEq]at this
   simp only[this.2]
theorem IsMap.look {m:κ→Option α}(h:IsMap H r f g m)(hk:wm P kt f)(k:κ)(zero:Value)(ok:Bool):
 Ru P H kt zero ok (.map (some r)) (f k)=some (match m k with
  |some a=>if ok then .tuple #[g a,.bool true]else g a
  |none=>if ok then .tuple #[zero,.bool false]else zero):=by
 obtain⟨l,h1,h2⟩:=h
 rw[h1.look hk,h2]
def MS (l:List (κ×α))(k:κ)(a:α):List (κ×α):=match nC l k with
 |some i=>l.modify i fun _=>(k,a)
 |none=>l++[(k,a)]
theorem XL (l:List (κ×α))(k:κ)(a:α)(k':κ):qw (MS l k a) k'=if k=k' then some a else qw l k':=by
 unfold MS
 cases h:nC l k with
 |none=>exact QG l k k' a (CJ h)
 |some i=>exact QH h a k'
theorem Ta {l:List (κ×α)}(hn:(l.map (·.1)).Nodup)(k:κ)(a:α):((MS l k a).map (·.1)).Nodup:=by
 unfold MS
 cases h:nC l k with
 |none=>
  simp only[List.map_append,List.map_cons,List.map_nil]
  have:=U1 (CJ h)
  rw[List.nodup_append]
  exact⟨hn,by simp,fun x hx y hy=>by simp at hy;subst hy;rintro rfl;exact this hx⟩
 |some i=>simp only;rw[NP h];exact hn
theorem x9 {A B:Type}(F:A→B)(x:A→A)(y:B)(hx: ∀e,F (x e)=y): ∀(l:List A) (i:Nat),(l.modify i x).map F=(l.map F).modify i fun _=>y
 |[],i=>by simp
 |e::l,0=>by simp[hx]
 |e::l,i+1=>by rw[List.modify_succ_cons,List.map_cons,List.map_cons,List.modify_succ_cons,x9 F x y hx l i]
theorem vU.put {l:List (κ×α)}(h:vU H r f g l)(hk:wm P kt f)(k:κ)(a:α):
 ∃o,qbV P H kt (.map (some r)) (f k) (g a)=some (undef,H.set r o)∧vU (H.set r o) r f g (MS l k a):=by
 obtain⟨h0,⟨es,clock,h1,h2,hb⟩,hn⟩:=h
 simp only[qbV,h1,S9 hk k h2,if_true,MR hk k es l 0 h2]
 have hnp:=Ta hn k a
 cases hi:nC l k with
 |none=>
  simp only[Option.map_none]
  refine⟨_,rfl,h0,⟨_,_,by rw[YW,if_pos rfl],?_⟩,hnp⟩
  exact⟨by simp only[MS,hi,List.map_append,h2,List.map_cons,List.map_nil],hb.add _ _⟩
 |some i=>
  obtain⟨a',e1,e2⟩:=MQ hi
  have:(es.map fun e=>(e.key,e.val))[i]? =some (f k,g a'):=by rw[h2,List.getElem?_map,e1];rfl
  rw[List.getElem?_map]at this
  simp only[Option.map_some,Nat.add_zero]
  cases he:es[i]? with
  |none=>rw[he]at this;simp at this
  |some e=>
   rw[he]at this
   simp only[Option.map_some,Option.some.injEq,Prod.mk.injEq]at this
   simp only[Option.map_some,Option.getD_some,this.1,hk.sb,if_true]
   refine⟨_,rfl,h0,⟨_,_,by rw[YW,if_pos rfl],?_⟩,hnp⟩
   refine⟨?_,hb.modify (fun e=>{e with key:=f k,val:=g a}) (fun _=>rfl) _⟩
   simp only[MS,hi]
   rw[x9 (fun e:MapEntry=>(e.key,e.val)) _ (f k,g a) (fun _=>rfl),h2,x9 (fun p:κ×α=>(f p.1,g p.2)) _ (f k,g a) (fun _=>rfl)]
theorem IsMap.put {m:κ→Option α}(h:IsMap H r f g m)(hk:wm P kt f)(k:κ)(a:α):
 ∃o,qbV P H kt (.map (some r)) (f k) (g a)=some (undef,H.set r o)∧IsMap (H.set r o) r f g fun k'=>if k=k' then some a else m k':=by
 obtain⟨l,h1,h2⟩:=h
 obtain⟨o,e1,e2⟩:=h1.put hk k a
 exact⟨o,e1,_,e2,fun k'=>by rw[XL,h2]⟩
omit [DecidableEq κ] in
theorem vU.same {H':aa}{l:List (κ×α)}(h:vU H r f g l)(hn:H.next≤H'.next)(hg:H'.get r=H.get r):vU H' r f g l:=by
 obtain⟨h0,⟨es,clock,h1,h2,hb⟩,h3⟩:=h
 exact⟨Nat.lt_of_lt_of_le h0 hn,⟨es,clock,hg.trans h1,h2,hb⟩,h3⟩
theorem IsMap.same {H':aa}{m:κ→Option α}(h:IsMap H r f g m)(hn:H.next≤H'.next)(hg:H'.get r=H.get r):IsMap H' r f g m:=by
 obtain⟨l,h1,h2⟩:=h
 exact⟨l,h1.same hn hg,h2⟩
theorem IsMap.le {H':aa}{m:κ→Option α}(h:IsMap H r f g m)(hl:H.le H'):IsMap H' r f g m:=h.same hl.next (hl.get r (by obtain⟨l,h1,_⟩:=h;exact h1.1))
theorem IsMap.lt {m:κ→Option α}(h:IsMap H r f g m):r<H.next:=by obtain⟨l,h1,_⟩:=h;exact h1.1
theorem IsMap.new (H:aa)(f:κ→Value)(g:α→Value):IsMap (H.alloc (.map [] 0)) H.next f g fun _=>none:=
 ⟨[],⟨by simp[YX],⟨[],0,by rw[YV,if_pos rfl],rfl,List.nodup_nil,by simp⟩,by simp⟩,fun _=>rfl⟩
end
end
section
attribute [local simp] J0 J1 J2 J3 J4 J5 J6 J7 J8 J9 Ja Jb Jc Jd Je Jf Jg Jh Ji Jj Jk Jl Jm Jn Jo Jp Jq Jr Js Jt Ju Jv Jw Jx Jy Jz JA JB JC JD JE JF JG JH JI JJ JK JL JM JN JO JP JQ JR JS bE bO.kind JT JU JV JW JX JY JZ Y0 Y1 Y2 Y3 Y4 Y5 Y6 Y7 Y8 Y9 Ya Yb Yc Yd Ye Yf Yg Yh Yi Yj Yk Yl Ym Yn Yo Yp Yq j3 Yr Ys Yt Yu Yv Yw Yx Yy gy di dI Yz YA YB YC YD YE fq YF YG YH YI YJ YK YL YM YN YO YP YQ YR YS YT YU sP bS kF qm bZ putAt aa.aj aa.aT aa.aK YV YW YX YY YZ B0 B1 B2 B3 B4 B5 B6 B7 B8 B9 Ba Bb Bc Bd Be Bf Bg Bh Bi Bj Bk Bl Bm Bn Bo Bp
section
def kI (n:Int):Value:=.int .i64 n
theorem keyOf_int {P:Program}{t:TypeId}{k:IntKind}(hu:P.underlying t=some (.int k)):wm P t kI:=by
 refine⟨fun a b=> ?_,fun e a=> ?_,fun _=>rfl,fun a=> ?_⟩
 ·refine Am hu ?_
  simp only[kI,Instr.sameNow,if_true]
  by_cases h:a=b <;> simp[h]
 ·rw[show(10000:Nat)=9999+1 from rfl]
  unfold Instr.checkKey
  rw[aI,bT hu]
  rfl
 ·simp[kI,Instr.sameBits]
structure OU (T:aQ):Prop where
 lim: ∀n x,T.l n=some x→0≤x.1∧x.1≤T.gen∧(n=1↔x.1=0)
 one: ∀n m x y,T.l n=some x→T.l m=some y→x.1=y.1→n=m
open Classical in
noncomputable def wu (T:aQ)(i:Nat)(k:Int):Option Bool:=if ∃n x,n<i∧T.l n=some x∧x.1=k then some true else none
theorem U2 (T:aQ)(i:Nat)(k:Int){x:Int×oN}(h:T.l i=some x):wu T (i+1) k=if x.1=k then some true else wu T i k:=by
 unfold wu
 by_cases hx:x.1=k
 ·rw[if_pos hx,if_pos ⟨i,x,by omega,h,hx⟩]
 ·rw[if_neg hx]
  have:(∃n y,n<i+1∧T.l n=some y∧y.1=k)↔∃n y,n<i∧T.l n=some y∧y.1=k:=by
   constructor
   ·rintro⟨n,y,h1,h2,h3⟩
    refine⟨n,y,?_,h2,h3⟩
    by_cases e:n=i
    ·subst e;rw[h]at h2;injection h2 with h2;subst h2;exact absurd h3 hx
    ·omega
   ·rintro⟨n,y,h1,h2,h3⟩;exact⟨n,y,by omega,h2,h3⟩
  by_cases q: ∃n y,n<i∧T.l n=some y∧y.1=k
  ·rw[if_pos q,if_pos (this.2 q)]
  ·rw[if_neg q,if_neg (fun e=>q (this.1 e))]
theorem U3 (T:aQ)(i:Nat)(k:Int)(h:T.l i=none):wu T (i+1) k=wu T i k:=by
 unfold wu
 have:(∃n y,n<i+1∧T.l n=some y∧y.1=k)↔∃n y,n<i∧T.l n=some y∧y.1=k:=by
  constructor
  ·rintro⟨n,y,h1,h2,h3⟩
   refine⟨n,y,?_,h2,h3⟩
   by_cases e:n=i
   ·subst e;rw[h]at h2;cases h2
   ·omega
  ·rintro⟨n,y,h1,h2,h3⟩;exact⟨n,y,by omega,h2,h3⟩
 by_cases q: ∃n y,n<i∧T.l n=some y∧y.1=k
 ·rw[if_pos q,if_pos (this.2 q)]
 ·rw[if_neg q,if_neg (fun e=>q (this.1 e))]
theorem XM {T:aQ}(hT:OU T){i:Nat}{x:Int×oN}(h:T.l i=some x):wu T i x.1=none:=by
 unfold wu
 rw[if_neg]
 rintro⟨n,y,h1,h2,h3⟩
 have:=hT.one n i y x h2 h h3
 omega
section
variable (c:Ctx) (hc:dP c) (hI:wm c.P (c.Ty 2) kI) {H:aa} {K:Value→aa→Prop} {w:nu} {a:Nat→Nat} {p:Nat} {T:aQ}
include hc hI in
theorem qbo (h:gu (c.Ty 14) (c.Ty 13) w a H p T)(hT:OU T)(hK: ∀H',H.le H'→K (.bool true) H'):c.C (c.F F9) [.pointer (some ⟨p,0,none⟩)] H K:=by
 refine c.enter hc.LQ rfl ?_
 have hlt:=h.lt
 obtain⟨A,hA⟩: ∃A,A=List.take 512 (aN (c.Ty 14) (c.Ty 13) a T):=⟨_,rfl⟩
 have hA':=hA.symm
 have hAl:A.length=512:=by rw[hA];exact QF
 have hAi: ∀i,i<256→List.take 2 (List.drop (i*2) A)=[ku T i,dH (c.Ty 14) (c.Ty 13) a T i]:=fun i hi=>by rw[hA];exact UY hi
 have hlen:=aX (c.Ty 14) (c.Ty 13) a T
 have qlB:(aN (c.Ty 14) (c.Ty 13) a T).length=514:=hlen
 have IV:=uG (F:=c.Ty 14) (D:=c.Ty 13) (a:=a) (T:=T)
 have ML:(aN (c.Ty 14) (c.Ty 13) a T)[512]'(by rw[hlen];omega) = .int .i64 T.gen:=by
  have:=IV;rw[List.getElem?_eq_getElem (by rw[hlen];omega)]at this;exact Option.some.inj this
 have hg:=h.get
 have e1: ¬ p=H.next:=by omega
 simp -implicitDefEqProofs [nT,hg,hlen,hA',e1]
 refine cz c.mono (fun k E H'=> ∃i:Nat,i≤256∧k=256-i∧E 0 = .pointer (some ⟨p,0,none⟩)∧E 3 = .map (some H.next)∧E 10 = .agg A.toArray∧E 11 = .int .i64 i∧H.le H'∧IsMap H' H.next kI (Value.bool) (wu T i)) 256 ?_ ?_
 ·refine⟨0,by omega,rfl,?_⟩
  simp -implicitDefEqProofs []
  refine⟨H.ax _,?_⟩
  have:wu T 0=fun _=>none:=by funext k;unfold wu;rw[if_neg];rintro⟨n,x,h1,_⟩;omega
  rw[this]
  exact IsMap.new H kI Value.bool
 ·rintro k E G ⟨i,hi,rfl,t0,t3,t10,t11,hle,hm⟩
  by_cases hil:i<256
  ·have fO:(i:Int)<256:=by omega
   have hi2:i*2+2≤512:=by omega
   have hw:IntKind.i64.wrap ((i:Int)+1)=(i:Int)+1:=wrap64 (by omega) (by omega)
   have xZ:=hAi i hil
   have hml:=hm.lt
   obtain⟨Z,hZ⟩: ∃Z:aa,Z=(G.alloc (.cells [.int .i64 0,.nilIface] false)).set G.next (.cells [ku T i,dH (c.Ty 14) (c.Ty 13) a T i] false):=⟨_,rfl⟩
   have kZ:G.le Z:=by rw[hZ];exact(G.ax _).set (Nat.le_refl _) _
   have z5:Z.get G.next=some (.cells [ku T i,dH (c.Ty 14) (c.Ty 13) a T i] false):=by rw[hZ];simp[YW]
   have zm:=hm.le kZ
   cases hx:T.l i with
   |none=>
    have Nf:(T.l i).isNone=true:=by rw[hx];rfl
    simp -implicitDefEqProofs [t0,t3,t10,t11,hil,fO,hi2,hAl,xZ,l7,oQ,sF,vR,yY,Nf,hw,←hZ,z5]
    exact⟨256-(i+1),by omega,i+1,by omega,rfl,by simp,hle.trans kZ,by rw[funext fun k=>U3 T i k hx];exact zm⟩
   |some x=>
    obtain⟨g,d⟩:=x
    have Nf:(T.l i).isNone=false:=by rw[hx];rfl
    obtain⟨g1,g2,g3⟩:=hT.lim i _ hx
    simp only[]at g1 g2 g3
    have hgn:ku T i = .int .i64 g:=by unfold ku;rw[hx];rfl
    have hnn:dH (c.Ty 14) (c.Ty 13) a T i=Dp (c.Ty 14) (c.Ty 13) (a i) d:=by unfold dH;rw[hx];rfl
    rw[hgn,hnn]at xZ hZ z5
    have hnil:aU 4 (Dp (c.Ty 14) (c.Ty 13) (a i) d)=some false:=by cases d <;> rfl
    have g1': ¬ g<0:=by omega
    have g2': ¬ T.gen<g:=by omega
    have gp:=((hle.trans kZ).get p hlt).trans hg
    have hlk:Ru c.P Z (c.Ty 2) (.bool false) false (.map (some H.next)) (.int .i64 g)=some (.bool false):=by
     have:=zm.look hI g (.bool false) false
     have hs:wu T i g=none:=XM hT hx
     rw[hs]at this
     exact this
    have hb:decide (i=1)=decide (g=0):=decide_eq_decide.2 g3
    have hbI:decide ((i:Int)=1)=decide (g=0):=by
     rw[←hb];exact decide_eq_decide.2 (by omega)
    obtain⟨o,p1,p2⟩:=zm.put hI g true
    simp only[kI]at p1
    simp -implicitDefEqProofs [t0,t3,t10,t11,hil,fO,hi2,hAl,xZ,yV,ET,hnil,hw,←hZ,z5,g1',g2',gp,IV,ML,hlen,hlk,hb,hbI,p1]
    refine⟨256-(i+1),by omega,i+1,by omega,rfl,by simp,(hle.trans kZ).set (Nat.le_refl _) _,?_⟩
    rw[funext fun k=>U2 T i k hx]
    exact p2
  ·have fO: ¬ (i:Int)<256:=by omega
   simp -implicitDefEqProofs [t0,t3,t10,t11,hil,fO]
   exact hK _ hle
end
end
section
def GL (T:aQ)(i:Nat):Nat:=((List.range i).filter fun n=>(aS T n).isSome).length
theorem OV (T:aQ)(i:Nat):GL T (i+1)=GL T i+if (aS T i).isSome then 1 else 0:=by
 unfold GL
 rw[List.range_succ,List.filter_append,List.length_append]
 by_cases h:(aS T i).isSome <;> simp[h]
theorem qcW (T:aQ)(i:Nat):GL T i≤i:=by
 unfold GL
 exact Nat.le_trans (List.length_filter_le _ _) (by simp)
structure yc (T:aQ):Prop where
 dirs:SS T
 yf:OU T
 far: ∀n x,T.l n=some x→1≤n∧n<256
 root: ∃L,aS T 1=some L
 top:bG T 256 1=0
 tot:T.total=jZ T 256∧T.total≤65536
 file: ∀n s k,dS T n=some (s,k)→s.length≤16384∧k=bG T 256 n∧1≤k∧k≤100
 one: ∀n L,aS T n=some L→n≠1→bG T 256 n=1
 rch: ∃rch R,qbm T rch R∧rch 1∧R 1=GL T 256
def jr (T:aQ)(i:Nat):aQ:=⟨T.gen,jZ T 256,fun n=>if n<i then T.l n else if n<256 then (T.l n).map (fun x=>(x.1,noL x.2))else none⟩
theorem qbp {T:aQ}(h:yc T):jr T 256=T:=by
 unfold jr
 have e:(fun n=>if n<256 then T.l n else if n<256 then (T.l n).map (fun x=>(x.1,noL x.2))else none)=T.l:=by
  funext n
  by_cases hn:n<256
  ·rw[if_pos hn]
  ·rw[if_neg hn,if_neg hn]
   cases hx:T.l n with
   |none=>rfl
   |some x=>exact absurd (h.far n x hx).2 hn
 rw[e,←h.tot.1]
theorem OW {T:aQ}{i:Nat}(h:i<256)(hx: ∀s k g,T.l i≠some (g,.file s k)):jr T (i+1)=jr T i:=by
 unfold jr
 congr 1
 funext n
 by_cases hn:n<i
 ·rw[if_pos hn,if_pos (by omega)]
 ·by_cases he:n=i
  ·subst he
   rw[if_neg hn,if_pos (by omega),if_pos h]
   cases hy:T.l n with
   |none=>rfl
   |some y=>
    obtain⟨g,d⟩:=y
    cases d with
    |file s k=>exact absurd hy (hx s k g)
    |dir L=>rfl
  ·rw[if_neg hn,if_neg (by omega)]
theorem XN {T:aQ}{i:Nat}{g:Int}{s:List UInt8}{k:Int}(h:i<256)(hx:T.l i=some (g,.file s k)):(jr T i).l i=some (g,.file s 0)∧jr T (i+1)=(jr T i).put i (some (g,.file s k)):=by
 refine⟨by simp only[jr,Nat.lt_irrefl,if_false,if_pos h,hx,Option.map_some,noL],?_⟩
 unfold jr aQ.put
 congr 1
 funext n
 dsimp only
 by_cases he:n=i
 ·subst he;rw[if_pos (by omega),if_pos rfl,hx]
 ·rw[if_neg he]
  by_cases hn:n<i
  ·rw[if_pos hn,if_pos (by omega)]
  ·rw[if_neg hn,if_neg (by omega)]
theorem EW (T:aQ)(h: ∀n x,T.l n=some x→1≤n∧n<256)(i n:Nat):aS (jr T i) n=aS T n:=by
 unfold aS jr
 simp only[]
 by_cases hn:n<i
 ·rw[if_pos hn]
 ·rw[if_neg hn]
  cases hx:T.l n with
  |none=>by_cases h2:n<256 <;> simp[h2]
  |some y=>
   rw[if_pos (h n y hx).2]
   obtain⟨g,d⟩:=y
   cases d <;> rfl
theorem MU {T T':aQ}(h: ∀n,aS T' n=aS T n)(i k:Nat):bG T' i k=bG T i k:=by
 unfold bG dE;simp only[h]
theorem XO {T:aQ}(h:OU T):OU (jr T 0):=by
 have key: ∀n x,(jr T 0).l n=some x→∃y,T.l n=some y∧y.1=x.1:=by
  intro n x hx
  unfold jr at hx
  simp only[Nat.not_lt_zero,if_false]at hx
  split at hx
  ·cases hy:T.l n with
   |none=>rw[hy]at hx;cases hx
   |some y=>rw[hy]at hx;simp only[Option.map_some,Option.some.injEq]at hx;exact⟨y,rfl,by rw[←hx]⟩
  ·cases hx
 refine⟨fun n x hx=> ?_,fun n m x y hx hy e=> ?_⟩
 ·obtain⟨y,h1,h2⟩:=key n x hx
  rw[←h2];exact h.lim n y h1
 ·obtain⟨x',h1,h2⟩:=key n x hx
  obtain⟨y',h3,h4⟩:=key m y hy
  exact h.one n m x' y' h1 h3 (by rw[h2,h4,e])
theorem XP {T:aQ}(h:yc T):SS (jr T 0):=by
 refine⟨fun n L hd=>h.dirs.dir n L (by rw[←EW T h.far 0];exact hd),fun n L hd e he=> ?_⟩
 obtain⟨x,hx⟩:=h.dirs.here n L (by rw[←EW T h.far 0];exact hd) e he
 exact⟨(x.1,noL x.2),by simp only[jr,Nat.not_lt_zero,if_false,if_pos (h.far _ x hx).2,hx,Option.map_some]⟩
section
variable (c:Ctx) (hc:dP c) (hC:eU c) (hD:bI c) (hI:wm c.P (c.Ty 2) kI) (hTy:c.Ty 14≠c.Ty 13) {H:aa} {K:Value→aa→Prop} {w:nu} {a:Nat→Nat} {p:Nat} {T:aQ}
include hc hD hI hTy in
theorem XQ (h:gu (c.Ty 14) (c.Ty 13) w a H p (jr T 0))(hT:yc T)(hK: ∀H',Mv w w H H'→gu (c.Ty 14) (c.Ty 13) w a H' p T→K (.bool true) H'):c.C (c.F Er) [.pointer (some ⟨p,0,none⟩)] H K:=by
 refine c.enter hc.Iy rfl ?_
 have QA: ¬ c.Ty 13=c.Ty 14:=fun e=>hTy e.symm
 have hlt:=h.lt
 obtain⟨L1,hL1⟩:=hT.root
 have hd1:aS (jr T 0) 1=some L1:=by rw[EW T hT.far];exact hL1
 simp -implicitDefEqProofs [mU]
 refine ai (XK c hc hD hTy h (XP hT) fun H1 k1 n1 g1=> ?_)
 rw[show bG (jr T 0) 256=bG T 256 from funext fun k=>MU (EW T hT.far 0) 256 k]at g1
 simp -implicitDefEqProofs []
 refine ai (si c hc hTy (n:=1) (h.le k1) (by omega) fun H2 k2=> ?_)
 rw[hd1]
 simp only[Option.isSome_some,IR]
 have g2:=(k2.get _ n1).trans g1
 have IW:=k1.trans k2
 have qh0:(rJ (bG T 256))[1]? =some (.int .i64 0):=by rw[vT (by omega),hT.top];rfl
 have hcl:=uJ (bG T 256)
 have qh1:(rJ (bG T 256))[1]'(by rw[hcl];omega) = .int .i64 0:=by
  have:=qh0;rw[List.getElem?_eq_getElem (by rw[hcl];omega)]at this;exact Option.some.inj this
 have hg:=(h.le IW).get
 have hlen:=aX (c.Ty 14) (c.Ty 13) a (jr T 0)
 have IU:=yS (F:=c.Ty 14) (D:=c.Ty 13) (a:=a) (T:=jr T 0)
 have htt:(jr T 0).total=T.total:=hT.tot.1.symm
 rw[htt]at IU
 have MI:(aN (c.Ty 14) (c.Ty 13) a (jr T 0))[513]'(by rw[hlen];omega) = .int .i64 T.total:=by
  have:=IU;rw[List.getElem?_eq_getElem (by rw[hlen];omega)]at this;exact Option.some.inj this
 have htl: ¬ 65536<T.total:=by have:=hT.tot.2;omega
 simp -implicitDefEqProofs [aU,g2,qh0,qh1,hcl,hg,hlen,IU,MI,htl]
 refine ai (qbo c hc hI (h.le IW) (XO hT.yf) fun H3 k3=> ?_)
 have Qw:=IW.trans k3
 have g3:=(k3.get _ (by have:=k2.next;omega)).trans g2
 have hg3:=(h.le Qw).get
 obtain⟨A,hA⟩: ∃A,A=List.take 512 (aN (c.Ty 14) (c.Ty 13) a (jr T 0)):=⟨_,rfl⟩
 have hA':=hA.symm
 have hAl:A.length=512:=by rw[hA];exact QF
 have hAi: ∀i,i<256→List.take 2 (List.drop (i*2) A)=[ku (jr T 0) i,dH (c.Ty 14) (c.Ty 13) a (jr T 0) i]:=fun i hi=>by rw[hA];exact UY hi
 have n3:H.next<H3.next:=by have:=k2.next;have:=k3.next;omega
 simp -implicitDefEqProofs [hg3,hlen,hA']
 refine cz c.mono (fun k E H'=> ∃i:Nat,i≤256∧k=256-i∧E 0 = .pointer (some ⟨p,0,none⟩)∧E 3 = .slice (some ⟨H.next,0,none⟩) 256 256∧E 5 = .int .i64 (GL T i:Nat)∧E 43 = .agg A.toArray∧E 44 = .int .i64 i∧H.next<H'.next∧Mv w w H H'∧H'.get H.next=some (.cells (rJ (bG T 256)) false)∧gu (c.Ty 14) (c.Ty 13) w a H' p (jr T i)) 256 ?_ ?_
 ·refine⟨0,by omega,rfl,?_⟩
  simp -implicitDefEqProofs []
  exact⟨by simp[GL],n3,Qw.mv w,g3,h.le Qw⟩
 ·rintro k E G ⟨i,hi,rfl,t0,t3,t5,t43,t44,hn,hmv,hgn,ht⟩
  by_cases hil:i<256
  ·have fO:(i:Int)<256:=by omega
   have hi2:i*2+2≤512:=by omega
   have hw:IntKind.i64.wrap ((i:Int)+1)=(i:Int)+1:=wrap64 (by omega) (by omega)
   have xZ:=hAi i hil
   obtain⟨Z,hZ⟩: ∃Z:aa,Z=(G.alloc (.cells [.int .i64 0,.nilIface] false)).set G.next (.cells [ku (jr T 0) i,dH (c.Ty 14) (c.Ty 13) a (jr T 0) i] false):=⟨_,rfl⟩
   have kZ:G.le Z:=by rw[hZ];exact(G.ax _).set (Nat.le_refl _) _
   have nZ:Z.next=G.next+1:=by rw[hZ];rfl
   have z7:Z.get G.next=some (.cells [ku (jr T 0) i,dH (c.Ty 14) (c.Ty 13) a (jr T 0) i] false):=by rw[hZ];simp[YW]
   have zn:=(kZ.get _ hn).trans hgn
   have zt:=ht.le kZ
   have zmv:=hmv.trans (kZ.mv w)
   have hfs:=OV T i
   cases hx:T.l i with
   |none=>
    have hnn:dH (c.Ty 14) (c.Ty 13) a (jr T 0) i = .nilIface:=by
     unfold dH jr;simp only[Nat.not_lt_zero,if_false,if_pos hil,hx];rfl
    rw[hnn]at xZ hZ z7
    have hdn:aS T i=none:=by simp[aS,hx]
    rw[hdn]at hfs
    simp only[Option.isSome_none,Bool.false_eq_true,if_false,Nat.add_zero]at hfs
    have hms:=OW (T:=T) hil (fun s k g e=>by rw[hx]at e;cases e)
    simp -implicitDefEqProofs [t0,t3,t5,t43,t44,hil,fO,hi2,hAl,xZ,l7,oQ,hw,←hZ,z7]
    exact⟨256-(i+1),by omega,i+1,by omega,rfl,by rw[hfs],by simp,by omega,zmv,zn,by rw[hms];exact zt⟩
   |some x=>
    obtain⟨g,d⟩:=x
    cases d with
    |file s k=>
     have hnn:dH (c.Ty 14) (c.Ty 13) a (jr T 0) i = .iface (c.Ty 14) (.pointer (some ⟨a i,0,none⟩)):=by
      unfold dH jr;simp only[Nat.not_lt_zero,if_false,if_pos hil,hx];rfl
     rw[hnn]at xZ hZ z7
     have hdn:aS T i=none:=by simp[aS,hx]
     rw[hdn]at hfs
     simp only[Option.isSome_none,Bool.false_eq_true,if_false,Nat.add_zero]at hfs
     obtain⟨m1,m2⟩:=XN hil hx
     obtain⟨_,hk1,hk2,hk3⟩:=hT.file i s k (by simp[dS,hx])
     obtain⟨f1,f2,f3⟩:=zt.node i _ m1
     have qbq:(rJ (bG T 256))[i]? =some (.int .i64 k):=by rw[vT hil,←hk1]
     have qeF:(rJ (bG T 256))[i]'(by rw[hcl];omega) = .int .i64 k:=by
      have:=qbq;rw[List.getElem?_eq_getElem (by rw[hcl];omega)]at this;exact Option.some.inj this
     obtain⟨m4,i4⟩:=zt.file' (t:=s) (j:=k) (H':=Z.set (a i) (.cells [ak s,.int .i64 k] false)) m1 (by simp only[YY]) (fun b hb=>by simp[YW,hb]) (by simp[YW])
     obtain⟨Y,hY⟩: ∃Y,Y=Z.set (a i) (.cells [ak s,.int .i64 k] false):=⟨_,rfl⟩
     have nY:Y.next=Z.next:=by rw[hY];rfl
     rw[←hY]at m4 i4
     have gY:Y.get (a i)=some (.cells [ak s,.int .i64 k] false):=by rw[hY];simp[YW]
     have yn:=(m4.get H.next (by omega) (h.new _ (Nat.le_refl _))).trans zn
     have k1': ¬ k<1:=by omega
     have k2': ¬ 100<k:=by omega
     have ZF:(0:Int)≤(i:Int):=by omega
     simp -implicitDefEqProofs [t0,t3,t5,t43,t44,hil,fO,hi2,hAl,xZ,l7,oQ,hw,←hZ,z7,zn,qbq,qeF,hcl,f3,←hY,gY,k1',k2']
     exact⟨256-(i+1),by omega,i+1,by omega,rfl,by rw[hfs],by simp,by omega,zmv.trans m4,yn,by rw[m2];exact i4⟩
    |dir L=>
     have hnn:dH (c.Ty 14) (c.Ty 13) a (jr T 0) i = .iface (c.Ty 13) (.agg #[.pointer (some ⟨a i,0,none⟩)]):=by
      unfold dH jr;simp only[Nat.not_lt_zero,if_false,if_pos hil,hx];rfl
     rw[hnn]at xZ hZ z7
     have hdn:aS T i=some L:=by simp[aS,hx]
     rw[hdn]at hfs
     simp only[Option.isSome_some,if_true]at hfs
     have hms:=OW (T:=T) hil (fun s k g e=>by rw[hx]at e;cases e)
     have hfl:=qcW T i
     have hw5:IntKind.i64.wrap ((GL T i:Int)+1)=((GL T (i+1):Nat):Int):=by rw[wrap64 (by omega) (by omega)];omega
     obtain⟨Y,hY⟩: ∃Y:aa,Y=(Z.alloc (.cells [.pointer none] false)).set Z.next (.cells [.pointer (some ⟨a i,0,none⟩)] false):=⟨_,rfl⟩
     have kY:Z.le Y:=by rw[hY];exact(Z.ax _).set (Nat.le_refl _) _
     have nY:Y.next=Z.next+1:=by rw[hY];rfl
     have yn:=(kY.get H.next (by omega)).trans zn
     have hend: ∃m,m<256-i∧∃i_1,i_1≤256∧m=256-i_1∧((GL T (i+1):Nat):Int)=((GL T i_1:Nat):Int)∧(i:Int)+1=(i_1:Int)∧H.next<Y.next∧Mv w w H Y∧Y.get H.next=some (.cells (rJ (bG T 256)) false)∧gu (c.Ty 14) (c.Ty 13) w a Y p (jr T i_1):=
      ⟨256-(i+1),by omega,i+1,by omega,rfl,rfl,by simp,by omega,zmv.trans (kY.mv w),yn,by rw[hms];exact zt.le kY⟩
     simp -implicitDefEqProofs [t0,t3,t5,t43,t44,hil,fO,hi2,hAl,xZ,l7,oQ,hw,hw5,←hZ,z7,zn,hTy,QA,hcl,←hY,yn]
     by_cases h1:i=1
     ·rw[show decide ((i:Int)=1)=true from decide_eq_true (by omega)]
      simp -implicitDefEqProofs [t44,t0,t3,t43,hw]
      exact hend
     ·rw[show decide ((i:Int)=1)=false from decide_eq_false (by omega)]
      have hk1:=hT.one i L hdn h1
      have qbq:(rJ (bG T 256))[i]? =some (.int .i64 1):=by rw[vT hil,hk1];rfl
      have qeF:(rJ (bG T 256))[i]'(by rw[hcl];omega) = .int .i64 1:=by
       have:=qbq;rw[List.getElem?_eq_getElem (by rw[hcl];omega)]at this;exact Option.some.inj this
      simp -implicitDefEqProofs [t44,t0,t3,t43,hw,hil,fO,yn,hcl,qbq,qeF]
      obtain⟨m,z1,i1,z2,z3,z4,z5,z6,z7,_,z8⟩:=hend
      exact⟨m,z1,i1,z2,z3,z4,z5,z6,z7,z8⟩
  ·have fO: ¬ (i:Int)<256:=by omega
   have:i=256:=by omega
   subst this
   rw[qbp hT]at ht
   obtain⟨rch,R,hR1,hR2,hR3⟩:=hT.rch
   simp -implicitDefEqProofs [t0,t3,t5,t43,t44,hil,fO]
   refine ai (SY c hc hD hTy hT.dirs hR1 _ 1 L1 _ _ rfl hR2 hL1 (by omega) ht fun H5 k5=> ?_)
   rw[hR3]
   simp -implicitDefEqProofs [t5]
   exact hK _ (hmv.trans (k5.mv w)) (ht.le k5)
end
end
section
theorem qeG {T:aQ}(h:yc T){n:Nat}{g:Int}{d:oN}(hx:T.l n=some (g,d)):okN d:=by
 cases d with
 |file s k=>exact(h.file n s k (by simp[dS,hx])).1
 |dir L=>exact h.dirs.dir n L (by simp[aS,hx])
theorem OX {T:aQ}{i:Nat}: ∀k,jZ T i≤jZ T (i+k)
 |0=>Nat.le_refl _
 |k+1=>by have:=OX (T:=T) (i:=i) k;rw[←Nat.add_assoc,qH];omega
theorem yc.qeH {T:aQ}(h:yc T){i:Nat}(hi:i≤256):jZ T i≤65536:=by
 have h1:=OX (T:=T) (i:=i) (256-i)
 rw[show i+(256-i)=256 by omega]at h1
 have:=h.tot
 omega
section
variable (c:Ctx) (hc:dP c) (hC:eU c) (hD:bI c) (hX:pJ c) (hO:kS c) (hI:wm c.P (c.Ty 2) kI) (hTy:c.Ty 14≠c.Ty 13) {H:aa} {K:Value→aa→Prop} {T:aQ}
include hc hC hD hX hO hI hTy in
theorem OY (hT:yc T)(hg1:0≤T.gen)(hg2:T.gen≤1000000)(hs:(Ah T).length≤1000000)
 (hK: ∀p w' a' H',H.le H'→(∀b,b<H.next→w' b=0)→gu (c.Ty 14) (c.Ty 13) w' a' H' p T→K (.tuple #[.pointer (some ⟨p,0,none⟩),.int .i64 0]) H'):c.C (c.F Qn) [ak (Ah T)] H K:=by
 refine c.enter hc.UB rfl ?_
 have hcl:=EU T 256
 have hc0:fC T 256<256:=by
  have h1:=y7 (T:=T) (i:=1) 255
  have h2:fC T 1=0:=by
   rw[kw]
   cases hx:T.l 0 with
   |none=>rfl
   |some x=>have:=hT.far 0 x hx;omega
  have key: ∀k,fC T (1+k)≤k:=by
   intro k
   induction k with
   |zero=>exact Nat.le_of_eq h2
   |succ k ih=>rw[←Nat.add_assoc,kw];split <;> omega
  have h3:fC T 256≤255:=key 255
  omega
 simp -implicitDefEqProofs [vM]
 refine ai (vP c hC hs fun q H1 p1 k1 r1=> ?_)
 obtain⟨X,hX0⟩: ∃X:aa,X=H1.alloc (.cells trZ false):=⟨_,rfl⟩
 have gX:X.get H1.next=some (.cells trZ false):=by rw[hX0];simp[YV]
 have nX:X.next=H1.next+1:=by rw[hX0];rfl
 have kX:H1.le X:=by rw[hX0];exact H1.ax _
 have n1:=k1.next
 have rX:=r1.le kX
 have hql:=r1.1
 have e1:Ah T=encI T.gen++(encI (fC T 256)++sH T 0):=by rw[UZ];unfold Ah nJ;rw[List.append_assoc]
 have t1:bD (some (Ah T))=(some (encI (fC T 256)++sH T 0),T.gen):=by rw[e1];exact iK (by omega) (by omega) _
 have t2:bD (some (encI (fC T 256)++sH T 0))=(some (sH T 0),(fC T 256:Int)):=iK (by omega) (by omega) _
 simp -implicitDefEqProofs [←hX0]
 refine ai (qC c hC rX fun H2 u2 r2=> ?_)
 rw[t1]at r2 ⊢
 have hz:trZ=aN (c.Ty 14) (c.Ty 13) (fun _=>0) T0:=qbc _ _ _
 have g2:H2.get H1.next=some (.cells (aN (c.Ty 14) (c.Ty 13) (fun _=>0) T0) false):=by
  rw[u2.get H1.next (by omega) (by simp only[List.mem_singleton];omega),gX,hz]
 have hlen:=aX (c.Ty 14) (c.Ty 13) (fun _=>0) T0
 have hp:List.take 512 (aN (c.Ty 14) (c.Ty 13) (fun _=>0) T0)++Value.int IntKind.i64 T.gen::List.drop 513 (aN (c.Ty 14) (c.Ty 13) (fun _=>0) T0)=aN (c.Ty 14) (c.Ty 13) (fun _=>0) (iF T 0):=by
  have e:({T0 with gen:=T.gen}:aQ)=iF T 0:=by
   unfold iF T0
   simp[jZ]
  refine Eq.trans ?_ ((MK T.gen).trans (congrArg _ e))
  simp[putAt]
 obtain⟨Y,hY⟩: ∃Y,Y=H2.set H1.next (.cells (aN (c.Ty 14) (c.Ty 13) (fun _=>0) (iF T 0)) false):=⟨_,rfl⟩
 have n2:=u2.next
 have nY:Y.next=H2.next:=by rw[hY];rfl
 have gY:Y.get H1.next=some (.cells (aN (c.Ty 14) (c.Ty 13) (fun _=>0) (iF T 0)) false):=by rw[hY];simp[YW]
 have hqp: ¬ q=H1.next:=by omega
 have rY:IQ Y q (some (encI (fC T 256)++sH T 0)):=⟨by omega,r2.2.1,by rw[hY];simp only[YW,if_neg hqp];exact r2.2.2⟩
 simp -implicitDefEqProofs [g2,hlen,hp,←hY]
 refine ai (qC c hC rY fun H3 u3 r3=> ?_)
 rw[t2]at r3 ⊢
 have g3:H3.get H1.next=some (.cells (aN (c.Ty 14) (c.Ty 13) (fun _=>0) (iF T 0)) false):=by
  rw[u3.get H1.next (by omega) (by simp only[List.mem_singleton];omega),gY]
 have n3:=u3.next
 have qbr:=aX (c.Ty 14) (c.Ty 13) (fun _=>0) (iF T 0)
 have IV:=uG (F:=c.Ty 14) (D:=c.Ty 13) (a:=fun _=>0) (T:=iF T 0)
 have hcg:(iF T 0).gen=T.gen:=rfl
 rw[hcg]at IV
 have ML:(aN (c.Ty 14) (c.Ty 13) (fun _=>0) (iF T 0))[512]'(by rw[qbr];omega) = .int .i64 T.gen:=by
  have:=IV;rw[List.getElem?_eq_getElem (by rw[qbr];omega)]at this;exact Option.some.inj this
 have hgn: ¬ T.gen<0:=by omega
 have hcn: ¬ (fC T 256:Int)<0:=by omega
 have qlq: ¬ (256:Int)≤(fC T 256:Int):=by omega
 have qlr: ¬ 256≤fC T 256:=by omega
 simp -implicitDefEqProofs [g3,qbr,IV,ML,hgn,hcn,qlq,qlr]
 have le3:H.le H3:=by
  refine⟨by omega,fun b hb=> ?_⟩
  rw[u3.get b (by omega) (by simp only[List.mem_singleton];omega),hY,YW,if_neg (by omega),u2.get b (by omega) (by simp only[List.mem_singleton];omega),kX.get b (by omega),k1.get b hb]
 refine cz c.mono (fun k E H'=> ∃(i last:Nat) (w:nu) (a:Nat→Nat),i≤256∧k=fC T 256-fC T i∧E 4 = .pointer (some ⟨q,0,none⟩)∧E 5 = .pointer (some ⟨H1.next,0,none⟩)∧E 7 = .int .i64 last∧E 34 = .int .i64 (fC T 256)∧E 35 = .int .i64 (fC T i:Nat)∧(last<i∨last=0) ∧
  H.le H'∧(∀b,b<H.next→w b=0)∧w q=0∧IQ H' q (some (sH T i))∧gu (c.Ty 14) (c.Ty 13) w a H' H1.next (iF T i)) (fC T 256) ?_ ?_
 ·refine⟨0,0,fun b=>if b=H1.next then 1 else 0,fun _=>0,by omega,rfl,?_⟩
  simp -implicitDefEqProofs []
  refine⟨by simp[fC],le3,fun b hb=>by omega,hqp,r3,⟨by omega,by simp,g3,fun n x hx=>by simp[iF]at hx,fun b hb=>if_neg (by omega),fun n x hx=>by simp[iF]at hx⟩⟩
 ·rintro k E G ⟨i,last,w,a,hi,rfl,t4,t5,t7,t34,t35,hla,hle,hw0,hwq,hr,ht⟩
  by_cases hjl:fC T i<fC T 256
  ·have MO:(fC T i:Int)<(fC T 256:Int):=by omega
   have hwj:IntKind.i64.wrap ((fC T i:Int)+1)=(fC T i:Int)+1:=wrap64 (by omega) (by omega)
   obtain⟨n,x,q1,q2,q3,q4,q5,q6⟩:=VN (T:=T) (256-i) i (by omega) hjl
   obtain⟨g,d⟩:=x
   have hf:=hT.far n _ q3
   have hgl:=hT.yf.lim n _ q3
   simp only[]at hgl
   rw[←q4]at ht
   rw[←q5,CG q2]at hr
   unfold GK at hr
   rw[q3]at hr
   simp -implicitDefEqProofs [t4,t5,t7,t34,t35,hjl,MO]
   refine ai (qbh c hc hC hD hX hO ht q3 hf.1 q2 (last:=last) (by omega) (by omega) (by omega) (qeG hT q3) (by have:=hT.qeH (i:=n) (by omega);omega) hr hwq fun w' a' G2 m1 m2 m3 m4 m5=> ?_)
   simp -implicitDefEqProofs [t4,t5,t7,t34,t35,hwj]
   have hcs:fC T (n+1)=fC T i+1:=by rw[kw,q3,q6];rfl
   exact⟨fC T 256-(fC T i+1),by omega,n+1,by omega,by omega,n,rfl,by omega,by omega,⟨Nat.le_trans hle.next m1,fun b hb=>(m2 b (by have:=hle.next;omega) (hw0 b hb) (by omega)).trans (hle.get b hb)⟩,w',fun b hb=>by rw[m3 b (by have:=hle.next;omega)];exact hw0 b hb,by rw[m3 q hr.1];exact hwq,m4,a',m5⟩
  ·have MO: ¬ (fC T i:Int)<(fC T 256:Int):=by omega
   have qls:=y7 (T:=T) (i:=i) (256-i)
   rw[show i+(256-i)=256 by omega]at qls
   obtain⟨q1,q2⟩:=SQ (T:=T) (256-i) i (by omega) (by omega)
   rw[q1]at ht
   rw[q2]at hr
   simp -implicitDefEqProofs [t4,t5,t7,t34,t35,hjl,MO]
   refine ai (Mr c hC hr ?_)
   have hrd:rdE (some [])=0:=rfl
   simp -implicitDefEqProofs [hrd,t4,t5]
   refine ai (XQ c hc hD hI hTy ht hT fun H5 m5 i5=> ?_)
   simp -implicitDefEqProofs [t5]
   exact hK _ w a _ ⟨Nat.le_trans hle.next m5.next,fun b hb=>(m5.get b (by have:=hle.next;omega) (hw0 b hb)).trans (hle.get b hb)⟩ hw0 i5
end
end
end
end Go.Proofs.YtofpmkhcbijilaaGreatDoorI
