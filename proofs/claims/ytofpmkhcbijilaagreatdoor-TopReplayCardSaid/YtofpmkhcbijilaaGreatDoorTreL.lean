/- Directories: what bytes tell. / Directories: bytes and back, plain. / Directories: what stays while deeds are done. / Texts that are split at a slash: the pure part; slices of names. / Texts that are split at a slash: strings.Index, Count, Split. / Blocks of one's own: what a call may turn. / Paths: -/
import Derived.Test.YtofpmkhcbijilaaGreatDoorDirET
import Derived.Test.YtofpmkhcbijilaaGreatDoorSlW
import Derived.Lib.Bytealg
import Derived.Lib.Repeat
namespace Go.Proofs.YtofpmkhcbijilaaGreatDoorI
open Go
set_option linter.unusedSimpArgs false
set_option linter.unusedVariables false
section
attribute [local simp] J0 J1 J2 J3 J4 J5 J6 J7 J8 J9 Ja Jb Jc Jd Je Jf Jg Jh Ji Jj Jk Jl Jm Jn Jo Jp Jq Jr Js Jt Ju Jv Jw Jx Jy Jz JA JB JC JD JE JF JG JH JI JJ JK JL JM JN JO JP JQ JR JS bE bO.kind JT JU JV JW JX JY JZ Y0 Y1 Y2 Y3 Y4 Y5 Y6 Y7 Y8 Y9 Ya Yb Yc Yd Ye Yf Yg Yh Yi Yj Yk Yl Ym Yn Yo Yp Yq j3 Yr Ys Yt Yu Yv Yw Yx Yy gy di dI Yz YA YB YC YD YE fq YF YG YH YI YJ YK YL YM YN YO YP YQ YR YS YT YU sP bS kF qm bZ putAt aa.aj aa.aT aa.aK YV YW YX YY YZ B0 B1 B2 B3 B4 B5 B6 B7 B8 B9 Ba Bb Bc Bd Be Bf Bg Bh Bi Bj Bk Bl Bm Bn Bo Bp
section
def pK (L:List aP):List UInt8:=match L.getLast? with|some e=>e.nm|none=>[]
def OD (st:Rd×List aP):Option (Rd×List aP):=
 if Op.bytesLess (pK st.2) (cB st.1).2=true∧(jc st.2 (cB st.1).2 (bD (cB st.1).1).2).2=0 then
  some ((bD (cB st.1).1).1,(jc st.2 (cB st.1).2 (bD (cB st.1).1).2).1)else none
def EO:Nat→Rd×List aP→Option (Rd×List aP)
 |0,st=>some st
 |k+1,st=>match OD st with|some st'=>EO k st'|none=>none
def Sy (s:List UInt8):Option (List aP):=
 if (bD (some s)).2<0∨((NH (bD (some s)).1).length:Int)<(bD (some s)).2 then none
 else match EO (bD (some s)).2.toNat ((bD (some s)).1,[])with
  |some (r,L)=>if rdE r=0 then some L else none
  |none=>none
theorem UJ {n:Int}{r:Rd}(h:(takeN n r).1=none):(takeN n r).2.1=[]:=by
 unfold takeN at h ⊢
 split at h
 ·rfl
 ·split at h
  ·rename_i hc;rw[if_pos hc]
  ·cases h
theorem NL {r:Rd}(h:(cB r).1=none):(cB r).2=[]:=UJ h
theorem Qu {r:Rd}(h:(bD r).1=none):(bD r).2=0:=by
 unfold bD at h ⊢
 split at h
 ·rfl
 ·split at h
  ·cases h
  ·rfl
theorem Sz (r:Rd):(NH (bD r).1).length≤(NH r).length:=by
 unfold bD
 repeat' split
 all_goals simp[NH]
theorem Qv (r:Rd):(cB r).2.length≤(NH r).length:=by
 have h:=Sz r
 unfold cB takeN
 repeat' split
 all_goals simp_all [NH]
 all_goals omega
theorem Xm {r:Rd}{L:List aP}(h:(bD (cB r).1).1=none):OD (r,L)=none:=by
 unfold OD
 rw[if_neg]
 rintro⟨h1,h2⟩
 simp only at h1 h2
 cases ht:(cB r).1 with
 |none=>
  rw[NL ht]at h1
  cases hl:pK L <;> rw[hl]at h1 <;> cases h1
 |some t=>
  rw[Qu h]at h2
  unfold jc at h2
  rw[if_pos (.inl (by omega))]at h2
  cases h2
theorem SA {L:List aP}{s:List UInt8}(hs:dz L)(h:L=[]∨Op.bytesLess (pK L) s=true):dW s L=L.length:=by
 rcases h with rfl|h
 ·rfl
 ·refine Nat.le_antisymm (yR _ _) (Nat.le_of_not_lt fun hlt=> ?_)
  have h0:=EM (List.getElem?_eq_getElem hlt)
  have hne:L≠[]:=by rintro rfl;simp at hlt
  have hl:L.getLast? =some (L.getLast hne):=List.getLast?_eq_some_getLast hne
  unfold pK at h
  rw[hl]at h
  simp only at h
  rw[List.getLast_eq_getElem]at h
  by_cases e:dW s L=L.length-1
  ·simp only[e]at h0;rw[h]at h0;cases h0
  ·have:=List.pairwise_iff_getElem.1 hs (dW s L) (L.length-1) hlt (by omega) (by omega)
   rw[EL this h]at h0;cases h0
theorem qaS {L:List aP}{s:List UInt8}{ino:Int}(hs:dz L)(h:L=[]∨Op.bytesLess (pK L) s=true)(h0:(jc L s ino).2=0):(jc L s ino).1=L++[⟨s,ino⟩]:=by
 unfold jc at h0 ⊢
 split at h0
 ·cases h0
 ·rename_i h1
  rw[if_neg h1]
  split at h0
  ·cases h0
  ·rename_i h2
   rw[if_neg h2]
   split at h0
   ·cases h0
   ·rename_i h3
    rw[if_neg h3,SA hs h]
    simp
theorem UK (L:List aP)(e:aP):pK (L++[e])=e.nm:=by simp[pK]
theorem qev {s:List UInt8}(h:s≠[]):Op.bytesLess [] s=true:=by cases s with|nil=>exact absurd rfl h|cons=>rfl
theorem Xn {L:List aP}{s:List UInt8}{ino:Int}(h0:(jc L s ino).2=0):lm s=true∧1≤ino∧ino<256:=by
 unfold jc at h0
 split at h0
 ·cases h0
 ·rename_i h1
  split at h0
  ·cases h0
  ·rename_i h2
   exact⟨by simpa using h2,by omega,by omega⟩
theorem qaT {s:List UInt8}(h:lm s=true):s≠[]:=by
 simp only[lm,decide_eq_true_eq]at h
 exact h.1
def RdI (N w p i:Nat)(v:Value)(r0:Rd)(H':aa):Prop:=∃(q:Nat) (r':Rd) (L:List aP),v=ak (pK L)∧L.length=i∧p<q∧IQ H' w r'∧NK H' p q L∧(∀e ∈ L,NJ e)∧EO N (r0,[])=EO (N-i) (r',L)
section
variable (c:Ctx) (hc:bI c) (hC:eU c) (hX:pJ c) (hI:kS c) {H:aa} {K:Value→aa→Prop}
theorem SB {r:Rd}(h:(NH r).length≤1000000):(NH (bD r).1).length≤1000000:=by
 unfold bD
 repeat' split
 all_goals simp_all [NH]
 all_goals omega
include hc hC hX hI in
theorem qaU {s:List UInt8}(hs:s.length≤1000000)
 (SC:Sy s=none→∀H',H.le H'→K (.tuple #[.pointer none,.int .i64 3]) H')
 (hK1: ∀L p q H',Sy s=some L→H.le H'→H.next≤p→H.next≤q→L.length≤s.length→(∀e ∈ L,NJ e)→NK H' p q L→K (.tuple #[.pointer (some ⟨p,0,none⟩),.int .i64 0]) H'):
 c.C (c.F R9) [ak s] H K:=by
 refine c.enter hc.Xa rfl ?_
 simp -implicitDefEqProofs [xJ]
 refine ai (vP c hC hs fun w H1 p1 k1 r1=> ?_)
 simp -implicitDefEqProofs []
 refine ai (VI c hc fun H2 k2 d2=> ?_)
 have r2:=r1.le k2
 have hwp:w<H1.next:=r1.1
 obtain⟨p,hp⟩: ∃p,p=H1.next:=⟨_,rfl⟩
 rw[←hp]at d2 hwp ⊢
 have d2:=d2 (p+1) (by omega)
 simp -implicitDefEqProofs []
 refine ai (qC c hC r2 fun H3 u3 r3=> ?_)
 have d3:=d2.upd u3 (by simp;omega) (by simp;omega)
 have Qw:H.le H3:=(k1.trans k2).vZ u3 (by simpa using p1)
 unfold Sy at SC hK1
 have hnr:=SB (r:=some s) hs
 have qhR:(NH (bD (some s)).1).length≤s.length:=by
  unfold bD
  repeat' split
  all_goals simp_all [NH]
  all_goals omega
 rcases htt:bD (some s)with⟨r,n⟩
 rw[htt]at SC hK1 r3 hnr qhR
 simp only at SC hK1 r3 hnr qhR ⊢
 by_cases hn:n<0
 ·rw[if_pos (.inl hn)]at SC
  simp -implicitDefEqProofs [hn]
  exact SC rfl _ Qw
 ·simp -implicitDefEqProofs [hn]
  refine ai (qaM c hC r3 ?_)
  by_cases hn2:((NH r).length:Int)<n
  ·rw[if_pos (.inr hn2)]at SC
   simp -implicitDefEqProofs [hn2]
   exact SC rfl _ Qw
  ·rw[if_neg (by omega)]at SC
   rw[if_neg (by omega)]at hK1
   obtain⟨N,hN⟩: ∃N:Nat,n=N:=⟨n.toNat,by omega⟩
   subst hN
   simp only[Int.toNat_natCast]at SC hK1
   simp -implicitDefEqProofs [hn2]
   have hNl:N≤s.length:=by omega
   refine cz c.mono (fun k T H'=> ∃i:Nat,i≤N∧k=N-i∧T 4 = .pointer (some ⟨w,0,none⟩)∧T 5 = .pointer (some ⟨p,0,none⟩)∧T 23 = .int .i64 N∧T 24 = .int .i64 i∧H.le H'∧RdI N w p i (T 7) r H') N ?_ ?_
   ·refine⟨0,by omega,rfl,?_⟩
    simp -implicitDefEqProofs []
    exact⟨Qw,p+1,r,[],rfl,rfl,by omega,r3,d3,by simp,rfl⟩
   ·rintro k T H' ⟨i,hi,rfl,t4,t5,t23,t24,hle,q,r',L,t7,hLi,hpq,hr,hd,hok,heq⟩
    by_cases hil:i<N
    ·have wG:(i:Int)<(N:Int):=by omega
     have hw:IntKind.i64.wrap ((i:Int)+1)=(i:Int)+1:=wrap64 (by omega) (by omega)
     rw[show N-i=N-(i+1)+1 by omega,EO]at heq
     have hbad:=fun h=>Xm (r:=r') (L:=L) h
     simp -implicitDefEqProofs [t4,t5,t7,t23,t24,hil,wG]
     refine ai (xR c hC hr fun H4 u4 r4=> ?_)
     simp -implicitDefEqProofs [t4,t5,t7,t23,t24]
     refine ai (qC c hC r4 fun H5 u5 r5=> ?_)
     have d5:=(hd.upd u4 (by simp;omega) (by simp;omega)).upd u5 (by simp;omega) (by simp;omega)
     have k05:H.le H5:=(hle.vZ u4 (by simpa using p1)).vZ u5 (by simpa using p1)
     have hnl:(cB r').2.length≤1000000:=Nat.le_trans (Qv r') hr.2.1
     unfold OD at heq
     simp only at heq
     obtain⟨nm,hnm⟩: ∃nm,nm=(cB r').2:=⟨_,rfl⟩
     obtain⟨ino,qaO⟩: ∃ino,ino=(bD (cB r').1).2:=⟨_,rfl⟩
     obtain⟨r6,hr6⟩: ∃r6,r6=(bD (cB r').1).1:=⟨_,rfl⟩
     rw[←hnm]at heq hnl ⊢
     rw[←qaO]at heq ⊢
     rw[←hr6]at heq r5
     cases hlt:Op.bytesLess (pK L) nm with
     |false=>
      rw[if_neg (by rw[hlt];simp)]at heq
      simp only at heq
      rw[heq]at SC
      have hle2:(Op.bytesLess nm (pK L)||decide (nm=pK L))=true:=by
       rcases Ms nm (pK L)with h|h|h
       ·rw[h];rfl
       ·rw[decide_eq_true h];simp
       ·rw[h]at hlt;cases hlt
      obtain⟨la,hla⟩: ∃la,la=pK L:=⟨_,rfl⟩
      rw[←hla]at hle2 t7
      rcases Bool.or_eq_true_iff.1 hle2 with h|h
      ·simp -implicitDefEqProofs [t4,t5,t7,t23,t24,ak,jI,h]
       exact SC (by simp) _ k05
      ·simp only[decide_eq_true_eq]at h
       simp -implicitDefEqProofs [t4,t5,t7,t23,t24,ak,jI,h]
       exact SC (by simp) _ k05
     |true=>
      have hle2:Op.bytesLess nm (pK L)=false:=qaN hlt
      have hle3: ¬ nm=pK L:=fun e=>qhN hlt e.symm
      simp -implicitDefEqProofs [t4,t5,t7,t23,t24,ak,jI,hle2,hle3]
      refine ai (VJ c hc hX hI (s:=nm) (ino:=ino) d5 (by omega) hnl fun q' H6 u6 hq' d6=> ?_)
      have n5:=u5.next
      have n4:=u4.next
      have hwl:=hr.1
      have k06:H.le H6:=k05.vZ u6 (by simp;omega)
      by_cases h0:(jc L nm ino).2=0
      ·rw[if_pos ⟨hlt,h0⟩]at heq
       simp only at heq
       have hend:=qaS hd.sorted (.inr hlt) h0
       obtain⟨z1,z2,z3⟩:=Xn h0
       rw[hend]at heq d6
       have hpl:=hd.lt
       have r6':IQ H6 w r6:=⟨Nat.lt_of_lt_of_le r5.1 u6.next,r5.2.1,(u6.get w r5.1 (by simp;omega)).trans r5.2.2⟩
       simp -implicitDefEqProofs [t4,t5,t7,t23,t24,h0,hw]
       exact⟨N-(i+1),by omega,i+1,by omega,rfl,by simp,k06,q',r6,L++[⟨nm,ino⟩],by rw[UK];rfl,by simp[hLi],by omega,r6',d6,fun e he=>by
        rcases List.mem_append.1 he with he|he
        ·exact hok e he
        ·simp only[List.mem_singleton]at he;subst he;exact⟨z1,z2,z3⟩,heq⟩
      ·rw[if_neg (fun h=>h0 h.2)]at heq
       simp only at heq
       rw[heq]at SC
       simp -implicitDefEqProofs [t4,t5,t7,t23,t24,h0]
       exact SC (by simp) _ k06
    ·have wG: ¬ (i:Int)<(N:Int):=by omega
     rw[show N-i=0 by omega,EO]at heq
     rw[heq]at SC hK1
     simp -implicitDefEqProofs [t4,t5,t7,t23,t24,hil,wG]
     refine ai (Mr c hC hr ?_)
     by_cases he:rdE r'=0
     ·simp only[he,if_true]at hK1
      simp -implicitDefEqProofs [he,t5]
      exact hK1 L p q _ rfl hle (by omega) (by omega) (by omega) hok hd
     ·simp only[he,if_false]at SC
      simp -implicitDefEqProofs [he,t5]
      exact SC (by simp) _ hle
end
end
end
theorem qcQ (e:aP):1≤(qD e).length:=by
 have:=List.length_pos_iff.2 (qcL e.ino)
 unfold qD
 simp only[List.length_append];omega
theorem qcR (L:List aP):L.length≤((L.map qD).flatten).length:=by
 induction L with
 |nil=>simp
 |cons e L ih=>
  have:=qcQ e
  simp only[List.map_cons,List.flatten_cons,List.length_append,List.length_cons];omega
theorem Xo {e:aP}{t:List UInt8}{L0:List aP}(hs:dz (L0++[e]))(ho:NJ e):OD (some (qD e++t),L0)=some (some t,L0++[e]):=by
 obtain⟨o1,o2,o3⟩:=ho
 have h28:=(Qt ⟨o1,o2,o3⟩).1
 have hs0:dz L0:=(List.pairwise_append.1 hs).1
 have e1:cB (some (qD e++t))=(some (encI e.ino++t),e.nm):=by
  have:=nk (x:=e.nm) (by omega) (encI e.ino++t)
  unfold qD
  rw[←this];simp
 have e2:bD (some (encI e.ino++t))=(some t,e.ino):=iK (by omega) (by omega) t
 have hlt:Op.bytesLess (pK L0) e.nm=true:=by
  by_cases hL:L0=[]
  ·subst hL;exact qev (qaT o1)
  ·have hl:L0.getLast? =some (L0.getLast hL):=List.getLast?_eq_some_getLast hL
   unfold pK
   rw[hl]
   exact(List.pairwise_append.1 hs).2.2 _ (List.getLast_mem hL) e (by simp)
 have hp:=SA hs0 (.inr hlt)
 have ht:iE L0 e.nm=false:=by unfold iE;rw[hp,List.getElem?_eq_none (Nat.le_refl _)]
 have ha:jc L0 e.nm e.ino=(L0++[e],0):=by
  unfold jc
  rw[if_neg (by omega),if_neg (by rw[o1];simp),if_neg (by rw[ht];simp),hp]
  simp
 unfold OD
 simp only[e1,e2,ha]
 rw[if_pos ⟨hlt,trivial⟩]
theorem OE: ∀(M L0:List aP),dz (L0++M)→(∀e ∈ M,NJ e)→EO M.length (some ((M.map qD).flatten),L0)=some (some [],L0++M)
 |[],L0,_,_=>by simp[EO]
 |e::M,L0,hs,ho=>by
  have e0:L0++e::M=L0++[e]++M:=by simp
  rw[e0]at hs
  have h1:=Xo (e:=e) (t:=(M.map qD).flatten) (L0:=L0) (List.pairwise_append.1 hs).1 (ho e (by simp))
  simp only[List.map_cons,List.flatten_cons,List.length_cons,EO]
  rw[h1,e0]
  exact OE M _ hs fun x hx=>ho x (by simp[hx])
theorem UL {L:List aP}(hs:dz L)(ho: ∀e ∈ L,NJ e)(hl:L.length≤1000000):Sy (wh L)=some L:=by
 unfold Sy wh
 have e1:bD (some (encI L.length++(L.map qD).flatten))=(some ((L.map qD).flatten),(L.length:Int)):=iK (by omega) (by omega) _
 have hg:=qcR L
 have hr:NH (some ((L.map qD).flatten))=(L.map qD).flatten:=rfl
 rw[e1]
 simp only[hr]
 rw[if_neg (by omega)]
 have:=OE L [] (by simpa using hs) ho
 simp only[List.nil_append]at this
 simp only[Int.toNat_natCast,this]
 rfl
section
def Dn (S:Nat→Prop)(H:aa)(p:Nat)(L:List aP):Prop:=(∀b,S b→b<H.next)∧¬ S p∧∃q,NK H p q L∧¬ S q
theorem Dn.sub {S S':Nat→Prop}{H:aa}{p:Nat}{L:List aP}(h:Dn S H p L)(hs: ∀b,S' b→S b):Dn S' H p L:=by
 obtain⟨a,b,q,c,d⟩:=h
 exact⟨fun x hx=>a x (hs x hx),fun hx=>b (hs p hx),q,c,fun hx=>d (hs q hx)⟩
theorem Dn.grow {S:Nat→Prop}{H H':aa}{p:Nat}{L:List aP}(h:Dn S H p L)(hl:H.le H'):Dn (fun b=>S b∨(H.next≤b∧b<H'.next)) H' p L:=by
 obtain⟨a,b,q,c,d⟩:=h
 have hn:=hl.next
 have hp:=c.lt
 refine⟨fun x hx=> ?_,fun hx=> ?_,?_⟩
 ·rcases hx with hx|hx
  ·have:=a x hx;omega
  ·exact hx.2
 ·rcases hx with hx|hx
  ·exact b hx
  ·omega
 ·by_cases hq:q<H.next
  ·refine⟨q,c.le hl,fun hx=> ?_⟩
   rcases hx with hx|hx
   ·exact d hx
   ·omega
  ·refine⟨H'.next,?_,fun hx=> ?_⟩
   ·obtain⟨u,g1,g2⟩:=c.rep
    have g3:VS H H'.next u (L.map oL):=by
     rcases g2 with g2|⟨cs,g2,_⟩
     ·exact .inl g2
     ·exact absurd g2 hq
    have c':NK H p H'.next L:=⟨c.lt,by omega,⟨u,g1,g3⟩,c.sorted⟩
    exact c'.le hl
   ·rcases hx with hx|hx
    ·have:=a _ hx;omega
    ·omega
theorem Dn.le {S:Nat→Prop}{H H':aa}{p:Nat}{L:List aP}(h:Dn S H p L)(hl:H.le H'):Dn S H' p L:=(h.grow hl).sub fun b hb=>.inl hb
theorem Dn.sorted {S:Nat→Prop}{H:aa}{p:Nat}{L:List aP}(h:Dn S H p L):dz L:=h.2.2.elim fun _ h=>h.1.sorted
theorem Dn.kept {S:Nat→Prop}{H H':aa}{p q:Nat}{L:List aP}(h:Dn S H p L)(hq: ¬ S q)(hu:aa.upd [p,q] H H'):Ic S H H':=
 ⟨hu.next,fun b hb=>hu.get b (h.1 b hb) fun hm=>by
   simp only[List.mem_cons,List.not_mem_nil,or_false]at hm
   rcases hm with e|e
   ·exact h.2.1 (e▸hb)
   ·exact hq (e▸hb)⟩
section
variable (c:Ctx) (hc:bI c) (hC:eU c) (hX:pJ c) (hI:kS c) {H:aa} {K:Value→aa→Prop}
include hc in
theorem qdo {S:Nat→Prop}(hS: ∀b,S b→b<H.next)(hK: ∀H',H.le H'→H.next<H'.next→Dn S H' H.next []→K (.pointer (some ⟨H.next,0,none⟩)) H'):c.C (c.F LG) [] H K:=by
 refine VI c hc fun H' k i=>hK H' k (i (H.next+1) (by omega)).lt ?_
 have hn:=k.next
 have hlt:=(i (H.next+1) (by omega)).lt
 exact⟨fun b hb=>by have:=hS b hb;omega,fun hb=>by have:=hS _ hb;omega,H'.next,i _ (by omega),fun hb=>by have:=hS _ hb;omega⟩
include hc hX hI in
theorem qhS {S:Nat→Prop}{p:Nat}{L:List aP}{s:List UInt8}{ino:Int}(h:Dn S H p L)(hl:L.length≤1000000)(hsl:s.length≤1000000)
 (hK: ∀H',Ic S H H'→Dn S H' p (jc L s ino).1→K (.int .i64 (jc L s ino).2) H'):c.C (c.F rf) [.pointer (some ⟨p,0,none⟩),ak s,.int .i64 ino] H K:=by
 have h':=h
 obtain⟨x,y,q,i,z⟩:=h'
 refine VJ c hc hX hI i hl hsl fun q' H' u hq i'=>hK H' (h.kept z u) ⟨fun b hb=>Nat.lt_of_lt_of_le (x b hb) u.next,y,q',i',fun hb=> ?_⟩
 rcases hq with rfl|hq
 ·exact z hb
 ·have:=x _ hb;omega
include hc in
theorem qaV {S:Nat→Prop}{p:Nat}{L:List aP}{s:List UInt8}(h:Dn S H p L)(hl:L.length≤1000000)
 (hK: ∀H',Ic S H H'→Dn S H' p (jb L s).1→K (.tuple #[.int .i64 (jb L s).2.1,.int .i64 (jb L s).2.2]) H'):c.C (c.F mM) [.pointer (some ⟨p,0,none⟩),ak s] H K:=by
 have h':=h
 obtain⟨x,y,q,i,z⟩:=h'
 exact UH c hc i hl fun H' u i'=>hK H' (h.kept z u) ⟨fun b hb=>Nat.lt_of_lt_of_le (x b hb) u.next,y,q,i',z⟩
include hc in
theorem Qx {S:Nat→Prop}{p:Nat}{L:List aP}{s:List UInt8}(h:Dn S H p L)(hl:L.length≤1000000)
 (hK: ∀H',H.le H'→K (.tuple #[.int .i64 (bF L s).1,.int .i64 (bF L s).2]) H'):c.C (c.F vX) [.pointer (some ⟨p,0,none⟩),ak s] H K:=
 h.2.2.elim fun _ h=>qaP c hc h.1 hl hK
include hc in
theorem qdp {S:Nat→Prop}{p:Nat}{L:List aP}(h:Dn S H p L)(hK:K (.int .i64 (L.length:Nat)) H):c.C (c.F xI) [.pointer (some ⟨p,0,none⟩)] H K:=
 h.2.2.elim fun _ h=>qcP c hc h.1 hK
include hc in
theorem UM {S:Nat→Prop}{p:Nat}{L:List aP}(h:Dn S H p L)(hl:L.length≤1000000)
 (hK: ∀v H',H.le H'→Grow H' H.next 1 v (L.map fun e=>nH e.nm)→K v H'):c.C (c.F lG) [.pointer (some ⟨p,0,none⟩)] H K:=
 h.2.2.elim fun _ h=>qaQ c hc h.1 hl hK
include hc hC in
theorem qew {S:Nat→Prop}{p:Nat}{L:List aP}(h:Dn S H p L)(hl:L.length≤1000000)(hok: ∀e ∈ L,NJ e)(hfit:(wh L).length≤65536)
 (hK: ∀H',H.le H'→K (ak (wh L)) H'):c.C (c.F vY) [.pointer (some ⟨p,0,none⟩)] H K:=
 h.2.2.elim fun _ h=>qaR c hc hC h.1 hl hok hfit hK
end
end
def pieces:List UInt8→List (List UInt8)
 |[]=>[[]]
 |x::l=>if x=47 then []::pieces l else (x::(pieces l).headD [])::(pieces l).tail
theorem rZ (x:UInt8)(l:List UInt8):pieces (x::l)=if x=47 then []::pieces l else (x::(pieces l).headD [])::(pieces l).tail:=rfl
theorem OG (s:List UInt8):pieces s≠[]:=by cases s with|nil=>simp[pieces]|cons x l=>unfold pieces;split <;> simp
theorem Ie {s:List UInt8}(h:Lib.indexByte s 47 = -1):pieces s=[s]:=by
 induction s with
 |nil=>rfl
 |cons x l ih=>
  have hg:=Lib.indexByte_ge l 47
  rw[show Lib.indexByte (x::l) 47=if x == 47 then 0 else if Lib.indexByte l 47 == -1 then -1 else Lib.indexByte l 47+1 from rfl]at h
  by_cases hx:x=47
  ·subst hx;simp at h
  ·have h2:(x == 47)=false:=by simpa using hx
   simp only[h2,Bool.false_eq_true,if_false]at h
   by_cases h3:Lib.indexByte l 47 = -1
   ·rw[rZ,if_neg hx,ih h3];rfl
   ·have h4:(Lib.indexByte l 47 == -1)=false:=by simpa using h3
    simp only[h4,Bool.false_eq_true,if_false]at h
    omega
theorem Ig {s:List UInt8}(h:Lib.indexByte s 47 ≠ -1):(Lib.indexByte s 47).toNat<s.length∧pieces s=s.take (Lib.indexByte s 47).toNat::pieces (s.drop ((Lib.indexByte s 47).toNat+1)):=by
 induction s with
 |nil=>exact absurd rfl h
 |cons x l ih=>
  have hg:=Lib.indexByte_ge l 47
  rw[show Lib.indexByte (x::l) 47=if x == 47 then 0 else if Lib.indexByte l 47 == -1 then -1 else Lib.indexByte l 47+1 from rfl]at h ⊢
  by_cases hx:x=47
  ·subst hx
   refine⟨by simp,?_⟩
   rw[rZ,if_pos rfl];simp
  ·have h2:(x == 47)=false:=by simpa using hx
   simp only[h2,Bool.false_eq_true,if_false]at h ⊢
   by_cases h3:Lib.indexByte l 47 = -1
   ·rw[h3]at h;simp at h
   ·have h4:(Lib.indexByte l 47 == -1)=false:=by simpa using h3
    simp only[h4,Bool.false_eq_true,if_false]
    obtain⟨a,b⟩:=ih h3
    have e:(Lib.indexByte l 47+1).toNat=(Lib.indexByte l 47).toNat+1:=by omega
    rw[e]
    refine⟨by simp;omega,?_⟩
    rw[rZ,if_neg hx,b]
    simp
theorem Ct (s:List UInt8):(pieces s).length=Lib.countByte s 47+1:=by
 induction s with
 |nil=>rfl
 |cons x l ih=>
  rw[rZ]
  unfold Lib.countByte at *
  by_cases hx:x=47
  ·subst hx;rw[if_pos rfl,List.count_cons_self,List.length_cons,ih]
  ·rw[if_neg hx,List.count_cons_of_ne hx,List.length_cons,List.length_tail,ih];omega
theorem Qy (s:List UInt8): ∀p ∈ pieces s,p.length≤s.length:=by
 induction s with
 |nil=>simp[pieces]
 |cons x l ih=>
  intro p hp
  unfold pieces at hp
  split at hp
  ·rcases List.mem_cons.1 hp with rfl|hp
   ·simp
   ·have:=ih p hp;simp;omega
  ·rcases List.mem_cons.1 hp with rfl|hp
   ·have:(pieces l).headD [] ∈ pieces l:=by
     cases h:pieces l with
     |nil=>exact absurd h (OG l)
     |cons a b=>simp
    have:=ih _ this
    simp only[List.length_cons];omega
   ·have:=ih p (List.mem_of_mem_tail hp);simp;omega
def jP (c:Ctx):Prop:=∀(t:List UInt8) (b:UInt8) (H:aa) (K:Value→aa→Prop),K (.int .i64 (Lib.indexByte t b)) H→c.C (c.F 220) [ak t,.int .u8 (b.toNat:Nat)] H K
def kE (c:Ctx):Prop:=∀(t:List UInt8) (b:UInt8) (H:aa) (K:Value→aa→Prop),K (.int .i64 (Lib.countByte t b:Nat)) H→c.C (c.F 439) [ak t,.int .u8 (b.toNat:Nat)] H K
def Mx (c:Ctx):Prop:=∀(t:List UInt8) (n:Nat) (H:aa) (K:Value→aa→Prop),n≤9223372036854775807→t.length*n≤140737488355328→K (ak (Lib.repeatL t n)) H→c.C (c.F 443) [ak t,.int .i64 n] H K
theorem qaW (t:List UInt8)(b:UInt8):Lib.indexByte t b<0↔¬ b ∈ t:=by
 induction t with
 |nil=>simp[Lib.indexByte]
 |cons x l ih=>
  rw[show Lib.indexByte (x::l) b=if x == b then 0 else if Lib.indexByte l b == -1 then -1 else Lib.indexByte l b+1 from rfl]
  have hg:=Lib.indexByte_ge l b
  generalize Lib.indexByte l b=q at hg ih
  by_cases hx:x=b
  ·subst hx;simp
  ·have h2:(x == b)=false:=by simpa using hx
   have hx': ¬ b=x:=fun e=>hx e.symm
   simp only[h2,Bool.false_eq_true,if_false,List.mem_cons,hx',false_or,←ih]
   by_cases h3:q = -1
   ·simp[h3]
   ·have h4:(q == -1)=false:=by simpa using h3
    simp only[h4,Bool.false_eq_true,if_false]
    omega
theorem jP.idx {c:Ctx}(h:jP c):pJ c:=fun t b H K hK=>h t b H K (hK _ (qaW t b))
def Rm (H:aa)(B:Nat)(v:Value)(l:List (List UInt8)):Prop:=
 (l=[]∧v = .slice none 0 0)∨∃blk cs,B≤blk∧blk<H.next∧v = .slice (some ⟨blk,0,none⟩) l.length (dQ+1)∧H.get blk=some (.cells cs false)∧cs.take l.length=l.map ak∧l.length≤cs.length
theorem Rm.keep {H H':aa}{B:Nat}{v:Value}{l:List (List UInt8)}(h:Rm H B v l)(hk:H.le H'):Rm H' B v l:=by
 rcases h with h|⟨blk,cs,h1,h2,h3,h4,h5,h6⟩
 ·exact .inl h
 ·exact .inr ⟨blk,cs,h1,Nat.lt_of_lt_of_le h2 hk.next,h3,(hk.get blk h2).trans h4,h5,h6⟩
theorem Rm.weak {H:aa}{B B':Nat}{v:Value}{l:List (List UInt8)}(h:Rm H B v l)(hb:B'≤B):Rm H B' v l:=by
 rcases h with h|⟨blk,cs,h1,h⟩
 ·exact .inl h
 ·exact .inr ⟨blk,cs,Nat.le_trans hb h1,h⟩
theorem Rm.len {H:aa}{B:Nat}{v:Value}{l:List (List UInt8)}(h:Rm H B v l): ∃a cap,v = .slice a l.length cap:=by
 rcases h with⟨rfl,rfl⟩|⟨blk,cs,_,_,rfl,_⟩
 ·exact⟨_,_,rfl⟩
 ·exact⟨_,_,rfl⟩
theorem Rm.Qp {H:aa}{B:Nat}{v:Value}{l:List (List UInt8)}(h:Rm H B v l):Fs H 1 v (l.map nH):=by
 rcases h with⟨rfl,rfl⟩|⟨blk,cs,h1,h2,rfl,h4,h5,h6⟩
 ·exact(Grow.nil H 0 1).Qp
 ·refine⟨_,_,by rw[List.length_map],fun _=>⟨blk,0,cs,false,rfl,h2,h4,fun i r hi=> ?_⟩⟩
  rw[List.getElem?_map,Option.map_eq_some_iff]at hi
  obtain⟨s,hs,rfl⟩:=hi
  have hil:i<l.length:=(List.getElem?_eq_some_iff.1 hs).1
  have hc:cs[i]? =some (ak s):=by
   have:=congrArg (·[i]?) h5
   simp only[List.getElem?_take,hil,if_true,List.getElem?_map,hs,Option.map_some]at this
   exact this
  refine⟨rfl,?_,by omega⟩
  simp only[Nat.zero_add,Nat.mul_one]
  have hi2:i<cs.length:=by omega
  rw[List.drop_eq_getElem_cons hi2]
  rw[List.getElem?_eq_getElem hi2]at hc
  injection hc with hc
  simp[hc,nH]
theorem Rm.one (l:List (List UInt8)):(l.map nH).flatten.all fo=true:=by
 induction l with
 |nil=>rfl
 |cons s l ih=>simp only[List.map_cons,List.flatten_cons,List.all_append,ih,nH];rfl
theorem Rm.Xe {H:aa}{B:Nat}{v:Value}{l:List (List UInt8)}(h:Rm H B v l):Cq H 1 v (l.map nH):=by
 refine⟨h.Qp,?_⟩
 rcases h with⟨rfl,rfl⟩|⟨blk,cs,h1,h2,rfl,h4,h5,h6⟩
 ·exact⟨none,0,rfl,.inl rfl,.inl ⟨by unfold dQ;omega,Nat.le_refl _⟩⟩
 ·exact⟨_,_,by rw[List.length_map],.inr ⟨_,_,rfl⟩,.inr ⟨rfl,by simp⟩⟩
theorem Rm.app {H:aa}{B:Nat}{v:Value}{l:List (List UInt8)}(h:Rm H B v l)(hB:B≤H.next)(hl:l.length≤1000000)(s:List UInt8):
 ∃v' H',bQ H 1 16 v 1 [ak s]=some (v',H')∧Rm H' B v' (l++[s])∧aa.keep B H H':=by
 rcases h with⟨rfl,rfl⟩|⟨blk,cs,h1,h2,rfl,h4,h5,h6⟩
 ·refine⟨.slice (some ⟨H.next,0,none⟩) 1 (dQ+1),H.alloc (.cells [ak s] false),by simp[bQ],.inr ⟨H.next,[ak s],hB,by simp[YX],rfl,by simp[YV],by simp,by simp⟩,(H.ax _).keep hB⟩
 ·have hU: ¬ dQ+1<dQ:=by omega
  have hlen:(cs.take l.length).length=l.length:=by simp;omega
  have hf:aY H 1 l.length (.slice (some ⟨blk,0,none⟩) l.length (dQ+1))=some (l.map ak):=by
   simp only[aY,aa.aT,h4]
   by_cases hz:l.length*1=0
   ·rw[if_pos hz]
    have:l=[]:=List.length_eq_zero_iff.1 (by omega)
    subst this;rfl
   ·rw[if_neg hz,if_pos (by omega)]
    simp[h5]
  by_cases hr:l.length+1≤cs.length
  ·refine⟨.slice (some ⟨blk,0,none⟩) (l.length+1) (dQ+1),H.set blk (.cells (putAt cs l.length [ak s]) false),?_,.inr ⟨blk,putAt cs l.length [ak s],h1,by simpa[YY]using h2,by simp,by simp[YW],?_,?_⟩,⟨Nat.le_refl _,fun b hb=>by rw[YW,if_neg (by omega)]⟩⟩
   ·unfold bQ
    try simp only[]
    rw[if_pos ⟨by omega,by omega,by omega,by omega,rfl⟩,if_neg (by omega)]
    try simp only[]
    rw[if_neg (fun h=>hU h.1),hf]
    try simp only[]
    rw[if_neg hU,if_pos trivial,h4]
    try simp only[]
    rw[if_pos (by rfl),if_pos (by omega)]
    simp
   ·unfold putAt
    rw[List.length_append,List.take_append_of_le_length (by simp;omega)]
    rw[List.take_of_length_le (by simp;omega)]
    rw[h5];simp
   ·unfold putAt;simp;omega
  ·have he:cs.length=l.length:=by omega
   refine⟨.slice (some ⟨H.next,0,none⟩) (l.length+1) (dQ+1),(H.set blk .dead).alloc (.cells (l.map ak++[ak s]) false),?_,.inr ⟨H.next,l.map ak++[ak s],hB,by simp[YX,YY],by simp,by simp[YV,YY],by rw[List.take_of_length_le (by simp)];simp,by simp⟩,?_⟩
   ·unfold bQ
    try simp only[]
    rw[if_pos ⟨by omega,by omega,by omega,by omega,rfl⟩,if_neg (by omega)]
    try simp only[]
    rw[if_neg (fun h=>hU h.1),hf]
    try simp only[]
    rw[if_neg hU,if_pos trivial,h4]
    try simp only[]
    rw[if_pos (by rfl),if_neg (by omega),if_pos (by omega)]
   ·refine⟨by simp[YX,YY],fun b hb=> ?_⟩
    rw[YV,YY,if_neg (by omega),YW,if_neg (by omega)]
theorem Rm.pop {H:aa}{B n cap:Nat}{a:Option Addr}{l:List (List UInt8)}(h:Rm H B (.slice a n cap) l): ∃v',(∀X,bK X 1 a n cap 0 (n-1) none=some v')∧Rm H B v' l.dropLast:=by
 rcases h with⟨rfl,e⟩|⟨blk,cs,h1,h2,e,h4,h5,h6⟩
 ·simp only[Value.slice.injEq]at e
  obtain⟨rfl,rfl,rfl⟩:=e
  exact⟨.slice none 0 0,fun X=>by simp[bK,dQ],.inl ⟨rfl,rfl⟩⟩
 ·simp only[Value.slice.injEq]at e
  obtain⟨rfl,rfl,rfl⟩:=e
  have hU: ¬ dQ+1<dQ:=by omega
  refine⟨.slice (some ⟨blk,0,none⟩) (l.length-1) (dQ+1),fun X=>by simp[bK,hU],.inr ⟨blk,cs,h1,h2,by simp,h4,?_,by simp;omega⟩⟩
  have:=congrArg (List.take (l.length-1)) h5
  rw[List.take_take,Nat.min_eq_left (by omega)]at this
  rw[List.length_dropLast,this,←List.map_take,List.dropLast_eq_take]
section
attribute [local simp] J0 J1 J2 J3 J4 J5 J6 J7 J8 J9 Ja Jb Jc Jd Je Jf Jg Jh Ji Jj Jk Jl Jm Jn Jo Jp Jq Jr Js Jt Ju Jv Jw Jx Jy Jz JA JB JC JD JE JF JG JH JI JJ JK JL JM JN JO JP JQ JR JS bE bO.kind JT JU JV JW JX JY JZ Y0 Y1 Y2 Y3 Y4 Y5 Y6 Y7 Y8 Y9 Ya Yb Yc Yd Ye Yf Yg Yh Yi Yj Yk Yl Ym Yn Yo Yp Yq j3 Yr Ys Yt Yu Yv Yw Yx Yy gy di dI Yz YA YB YC YD YE fq YF YG YH YI YJ YK YL YM YN YO YP YQ YR YS YT YU sP bS kF qm bZ putAt aa.aj aa.aT aa.aK YV YW YX YY YZ B0 B1 B2 B3 B4 B5 B6 B7 B8 B9 Ba Bb Bc Bd Be Bf Bg Bh Bi Bj Bk Bl Bm Bn Bo Bp
section
theorem Xp (l:List (List UInt8)):(l.map nH).flatten=l.map ak:=by
 induction l with
 |nil=>rfl
 |cons x l ih=>simp only[List.map_cons,List.flatten_cons,ih,nH];rfl
section
variable (c:Ctx) (hc:dD c) (hD:bI c) (hX:jP c) (hN:kE c) {H:aa} {K:Value→aa→Prop}
include hc hD hX in
theorem Xq {s:List UInt8}(hK:K (.int .i64 (Lib.indexByte s 47)) H):c.C (c.F Ir) [ak s,ak [47]] H K:=by
 refine c.enter hc.strings_Index rfl ?_
 simp -implicitDefEqProofs [qc]
 refine ai (c.enter hc.rA rfl ?_)
 by_cases hs:[47]=s
 ·subst hs
  simp -implicitDefEqProofs [eD,ak,jI]
  exact hK
 ·simp -implicitDefEqProofs [eD,ak,jI,hs]
  refine ai (c.enter hD.iX rfl ?_)
  simp -implicitDefEqProofs [dw]
  refine ai (hX s 47 _ _ ?_)
  simp -implicitDefEqProofs []
  exact hK
include hc hN in
theorem Xr {s:List UInt8}(hK:K (.int .i64 (Lib.countByte s 47:Nat)) H):c.C (c.F Iq) [ak s,ak [47]] H K:=by
 refine c.enter hc.strings_Count rfl ?_
 simp -implicitDefEqProofs [qb,ak]
 refine ai (hN s 47 _ _ ?_)
 simp -implicitDefEqProofs []
 exact hK
include hc hD hX hN in
theorem Xt {s:List UInt8}(hs:s.length≤1000000)(hK: ∀v H',H.le H'→Cq H' 1 v ((pieces s).map nH)→K v H'):c.C (c.F Ip) [ak s,ak [47]] H K:=by
 refine c.enter hc.strings_Split rfl ?_
 simp -implicitDefEqProofs [qa]
 refine ai (c.enter hc.strings_genSplit rfl ?_)
 have hcl:Lib.countByte s 47≤s.length:=by unfold Lib.countByte;exact List.count_le_length
 have w1:IntKind.i64.wrap ((Lib.countByte s 47:Int)+1)=((Lib.countByte s 47+1:Nat):Int):=by rw[wrap64 (by omega) (by omega)];omega
 have w2:IntKind.i64.wrap ((s.length:Int)+1)=((s.length+1:Nat):Int):=by rw[wrap64 (by omega) (by omega)];omega
 simp -implicitDefEqProofs [lS,ak,jI]
 refine ai (Xr c hc hN (s:=s) ?_)
 obtain⟨n,hn⟩: ∃n,n=Lib.countByte s 47:=⟨_,rfl⟩
 rw[←hn]at hcl w1 ⊢
 have hmin: ¬ s.length<n:=by omega
 have hto:((n:Int)+1).toNat=n+1:=by omega
 have hb0:(0:Int)≤(n:Int)+1:=by omega
 have hb1:(n:Int)+1≤17592186044416:=by omega
 have hb2:((n:Int)+1)*16≤17592186044416:=by omega
 have hmk:List.map (fun x=>[Value.string {data:= #[]}][x % 1]?.getD default) (List.range (n+1))=List.replicate (n+1) (ak []):=by
  apply List.ext_getElem?
  intro i
  simp
  by_cases h:i<n+1
  ·simp[h,Nat.mod_one,ak]
  ·simp[h]
 have w3:IntKind.i64.wrap (n:Int)=n:=wrap64 (by omega) (by omega)
 have hpl:=Ct s
 rw[←hn]at hpl
 simp -implicitDefEqProofs [w1,w2,w3,hmin,hto,hb0,hb1,hb2,hmk]
 refine cz c.mono (fun k T H'=> ∃(i:Nat) (r:List UInt8) (done:List (List UInt8)) (cs:List Value),i≤n∧k=n-i∧T 0=ak r∧T 1=ak [47]∧T 2 = .int .i64 0∧T 3 = .int .i64 n∧T 9 = .slice (some ⟨H.next,0,none⟩) (n+1) (n+1)∧T 10 = .int .i64 i∧done.length=i∧pieces s=done++pieces r∧r.length≤s.length∧H'.get H.next=some (.cells cs false)∧cs.length=n+1∧cs.take i=done.map ak∧H'.next=H.next+1∧H.le H') n ?_ ?_
 ·refine⟨0,s,[],List.replicate (n+1) (ak []),by omega,rfl,?_⟩
  simp -implicitDefEqProofs []
  exact⟨rfl,rfl,H.ax _⟩
 ·rintro k T H' ⟨i,r,done,cs,hi,rfl,t0,t1,t2,t3,t9,t10,hd,hp,hrl,hg,hcs,hct,hnx,hle⟩
  have hpr:=congrArg List.length hp
  rw[List.length_append,hpl,hd]at hpr
  by_cases hin:i<n
  ·have SE:(i:Int)<(n:Int):=by omega
   have hne:Lib.indexByte r 47 ≠ -1:=fun e=>by rw[Ie e]at hpr;simp at hpr;omega
   obtain⟨hm1,hm2⟩:=Ig hne
   have hg1:=Lib.indexByte_ge r 47
   obtain⟨m,hm⟩: ∃m,m=(Lib.indexByte r 47).toNat:=⟨_,rfl⟩
   have hmI:Lib.indexByte r 47=(m:Int):=by omega
   rw[←hm]at hm1 hm2
   simp -implicitDefEqProofs [t0,t1,t2,t3,t9,t10,SE,hin]
   refine ai (Xq c hc hD hX (s:=r) ?_)
   have w4:IntKind.i64.wrap (m:Int)=m:=wrap64 (by omega) (by omega)
   have w5:IntKind.i64.wrap ((m:Int)+1)=(m:Int)+1:=wrap64 (by omega) (by omega)
   have w6:IntKind.i64.wrap ((i:Int)+1)=(i:Int)+1:=wrap64 (by omega) (by omega)
   have hm0: ¬ (m:Int)<0:=by omega
   have hmn:(0:Int)≤(m:Int):=by omega
   have qlg:(0:Int)≤(m:Int)+1:=by omega
   have hmt:((m:Int)+1).toNat=m+1:=by omega
   have hml:m≤r.length:=by omega
   have qlh:m+1≤r.length:=by omega
   have qli:(i:Int)<(n:Int)+1:=by omega
   have hii:i+1≤n+1:=by omega
   rw[hmI]
   simp -implicitDefEqProofs [t0,t1,t2,t3,t9,t10,ak,w4,w5,w6,hm0,hmn,qlg,hmt,hml,qlh,qli,hg,hcs,hii,gK,bH]
   have hdr:List.take (r.length-(m+1)) (List.drop (m+1) r)=r.drop (m+1):=List.take_of_length_le (by simp)
   rw[hdr]
   refine⟨n-(i+1),by omega,i+1,by omega,rfl,by simp,done++[r.take m],by simp[hd],by rw[hp,hm2];simp,by omega,by omega,?_,hnx,hle.set (Nat.le_refl _) _⟩
   have hl0:(List.take i cs).length=i:=by simp;omega
   rw[List.take_append,hl0,List.take_of_length_le (by omega),hct]
   simp[ak]
  ·have hin':i=n:=by omega
   subst hin'
   have qlj: ¬ (i:Int)<(i:Int):=by omega
   have hl1:(pieces r).length=1:=by omega
   have hr1:pieces r=[r]:=by
    by_cases e:Lib.indexByte r 47 = -1
    ·exact Ie e
    ·have:=(Ig e).2
     have h2:=congrArg List.length this
     have h3:1≤(pieces (r.drop ((Lib.indexByte r 47).toNat+1))).length:=List.length_pos_iff.2 (OG _)
     rw[List.length_cons]at h2
     omega
   have hi1:(i:Int)<(i:Int)+1:=by omega
   have w6:IntKind.i64.wrap ((i:Int)+1)=(i:Int)+1:=wrap64 (by omega) (by omega)
   have qlG:i+1≤cs.length:=by omega
   have hU1:i+1<9223372036854775808:=by omega
   simp -implicitDefEqProofs [t0,t1,t2,t3,t9,t10,qlj,hi1,w6,hg,hcs,gK,bH,bK,dQ,hb0,hU1]
   refine hK _ _ (hle.set (Nat.le_refl _) _) ?_
   have hl0:(List.take i cs).length=i:=by simp;omega
   rw[hp,hr1]
   refine EF.Xe ⟨by intro x hx;obtain⟨y,_,rfl⟩:=List.mem_map.1 hx;rfl,H.next,0,List.take i cs++ak r::List.drop (i+1) cs,false,?_,?_,?_,?_,?_,?_⟩
   ·simp[YY];omega
   ·simp[hd,dQ];omega
   ·simp[hd,Addr.add]
   ·simp[YW]
   ·rw[hct,List.drop_eq_nil_of_le (by omega:cs.length≤i+1)]
    simp only[List.drop_zero,List.length_map,List.length_append,List.length_cons,List.length_nil,hd,Nat.mul_one]
    rw[List.take_of_length_le (by simp[hd])]
    simp[nH]
    exact(Xp done).symm
   ·simp[hd];omega
end
end
end
structure Fr (B:Nat→Prop)(H H':aa):Prop where
 next:H.next≤H'.next
 get: ∀b,b<H.next→¬ B b→H'.get b=H.get b
theorem Fr.refl (B:Nat→Prop)(H:aa):Fr B H H:=⟨Nat.le_refl _,fun _ _ _=>rfl⟩
theorem aa.le.fr {H H':aa}(h:H.le H')(B:Nat→Prop):Fr B H H':=⟨h.next,fun b hb _=>h.get b hb⟩
theorem Fr.trans {B C:Nat→Prop}{H H1 H2:aa}(h:Fr B H H1)(k:Fr C H1 H2)(hc: ∀b,C b→B b∨H.next≤b):Fr B H H2:=
 ⟨Nat.le_trans h.next k.next,fun b hb hn=>(k.get b (Nat.lt_of_lt_of_le hb h.next) fun hx=>(hc b hx).elim hn (fun hx=>Nat.not_lt.2 hx hb)).trans (h.get b hb hn)⟩
theorem Fr.qaX {B:Nat→Prop}{H H1 H2:aa}(h:Fr B H H1)(k:H1.le H2):Fr B H H2:=h.trans (k.fr fun _=>False) (fun _ hb=>hb.elim)
theorem Fr.weak {B C:Nat→Prop}{H H':aa}(h:Fr B H H')(hc: ∀b,B b→C b):Fr C H H':=⟨h.next,fun b hb hn=>h.get b hb fun hx=>hn (hc b hx)⟩
theorem Fr.le {B:Nat→Prop}{H H':aa}(h:Fr B H H')(hb: ∀b,B b→H.next≤b):H.le H':=⟨h.next,fun b hb'=>h.get b hb' fun hx=>Nat.not_lt.2 (hb b hx) hb'⟩
theorem Fr.set {B:Nat→Prop}{H H':aa}(h:Fr B H H'){i:Nat}(hi:B i∨H.next≤i)(o:dU):Fr B H (H'.set i o):=⟨h.next,fun b hb hn=>by
 rw[YW,if_neg (by rintro rfl;rcases hi with hi|hi;exact hn hi;omega)];exact h.get b hb hn⟩
theorem Fr.alloc {B:Nat→Prop}{H H':aa}(h:Fr B H H')(o:dU):Fr B H (H'.alloc o):=h.qaX (H'.ax o)
theorem aa.upd.fr {S:List Nat}{H H':aa}(h:aa.upd S H H'){B:Nat→Prop}(hs: ∀b ∈ S,B b):Fr B H H':=⟨h.next,fun b hb hn=>h.get b hb fun hm=>hn (hs b hm)⟩
theorem UN {cs r:List Value}{p n:Nat}(h:(cs.drop p).take n=r)(j:Nat)(hj:j<n):cs[p+j]? =r[j]? :=by
 rw[←h,List.getElem?_take,if_pos hj,List.getElem?_drop]
def SlD (D:Nat→Prop)(H:aa)(size:Nat)(v:Value)(rows:List (List Value)):Prop:=
 Fs H size v rows∧∀b o n c,v = .slice (some ⟨b,o,none⟩) n c→rows≠[]→D b
theorem SlD.sl {D:Nat→Prop}{H:aa}{size:Nat}{v:Value}{rows:List (List Value)}(h:SlD D H size v rows):Fs H size v rows:=h.1
theorem SlD.weak {D D':Nat→Prop}{H:aa}{size:Nat}{v:Value}{rows:List (List Value)}(h:SlD D H size v rows)(hd: ∀b,D b→D' b):SlD D' H size v rows:=⟨h.1,fun b o n c e hr=>hd b (h.2 b o n c e hr)⟩
theorem SlD.fr {B D:Nat→Prop}{H H':aa}{size:Nat}{v:Value}{rows:List (List Value)}(h:SlD D H size v rows)(k:Fr B H H')(hd: ∀b,D b→¬ B b):SlD D H' size v rows:=by
 obtain⟨⟨a,cap,rfl,h2⟩,h3⟩:=h
 refine⟨⟨a,cap,rfl,fun hr=> ?_⟩,h3⟩
 obtain⟨b,o,cs,ro,rfl,hb,hget,hrow⟩:=h2 hr
 exact⟨b,o,cs,ro,rfl,Nat.lt_of_lt_of_le hb k.next,(k.get b hb (hd b (h3 b o _ _ rfl hr))).trans hget,hrow⟩
theorem SlD.le {D:Nat→Prop}{H H':aa}{size:Nat}{v:Value}{rows:List (List Value)}(h:SlD D H size v rows)(k:H.le H'):SlD D H' size v rows:=⟨h.1.le k,h.2⟩
section
attribute [local simp] J0 J1 J2 J3 J4 J5 J6 J7 J8 J9 Ja Jb Jc Jd Je Jf Jg Jh Ji Jj Jk Jl Jm Jn Jo Jp Jq Jr Js Jt Ju Jv Jw Jx Jy Jz JA JB JC JD JE JF JG JH JI JJ JK JL JM JN JO JP JQ JR JS bE bO.kind JT JU JV JW JX JY JZ Y0 Y1 Y2 Y3 Y4 Y5 Y6 Y7 Y8 Y9 Ya Yb Yc Yd Ye Yf Yg Yh Yi Yj Yk Yl Ym Yn Yo Yp Yq j3 Yr Ys Yt Yu Yv Yw Yx Yy gy di dI Yz YA YB YC YD YE fq YF YG YH YI YJ YK YL YM YN YO YP YQ YR YS YT YU sP bS kF qm bZ putAt aa.aj aa.aT aa.aK YV YW YX YY YZ B0 B1 B2 B3 B4 B5 B6 B7 B8 B9 Ba Bb Bc Bd Be Bf Bg Bh Bi Bj Bk Bl Bm Bn Bo Bp
section
def xU:List (List UInt8)→List (List UInt8)→Option (List (List UInt8))
 |[],acc=>some acc
 |p::ps,acc=>if p=[]∨p=[46]then xU ps acc else if p=[46,46]then xU ps acc.dropLast else if lm p=true then xU ps (acc++[p])else none
def kT (s:List UInt8):Option (List (List UInt8)):=match s with
 |[]=>none
 |x::t=>if x≠47∨255<s.length then none else xU (pieces t) []
theorem EP: ∀(ps acc l:List (List UInt8)),xU ps acc=some l→(∀x ∈ acc,lm x=true)→(∀x ∈ l,lm x=true)∧l.length≤acc.length+ps.length
 |[],acc,l,h,ha=>by
  simp only[xU,Option.some.injEq]at h;subst h;exact⟨ha,by simp⟩
 |p::ps,acc,l,h,ha=>by
  simp only[xU]at h
  split at h
  ·obtain⟨a,b⟩:=EP ps acc l h ha;exact⟨a,by simp;omega⟩
  ·split at h
   ·obtain⟨a,b⟩:=EP ps _ l h fun x hx=>ha x (List.dropLast_subset _ hx)
    exact⟨a,by simp at b ⊢;omega⟩
   ·split at h
    ·rename_i hn
     obtain⟨a,b⟩:=EP ps _ l h fun x hx=>by
      rcases List.mem_append.1 hx with hx|hx
      ·exact ha x hx
      ·rw[List.mem_singleton.1 hx];exact hn
     exact⟨a,by simp at b ⊢;omega⟩
    ·cases h
theorem uE {s:List UInt8}{l:List (List UInt8)}(h:kT s=some l):(∀x ∈ l,lm x=true)∧l.length≤256:=by
 cases s with
 |nil=>cases h
 |cons x t=>
  simp only[kT]at h
  split at h
  ·cases h
  ·rename_i hc
   obtain⟨a,b⟩:=EP _ _ _ h (by simp)
   refine⟨a,?_⟩
   rw[Ct]at b
   have:=List.count_le_length (a:=(47:UInt8)) (l:=t)
   unfold Lib.countByte at b
   simp at b hc
   omega
section
variable (c:Ctx) (hc:dD c) (hD:bI c) (hX:jP c) (hN:kE c) {H:aa} {K:Value→aa→Prop}
include hc hD hX hN in
theorem uF {s:List UInt8}(hs:s.length≤1000000)(h1: ∀l v H',kT s=some l→H.le H'→Rm H' H.next v l→K (.tuple #[v,.int .i64 0]) H')
 (h0: ∀H',kT s=none→H.le H'→K (.tuple #[.slice none 0 0,.int .i64 15]) H'):c.C (c.F Ny) [ak s] H K:=by
 refine c.enter hc.Sd rfl ?_
 cases s with
 |nil=>
  simp -implicitDefEqProofs [jG,ak,jI]
  exact h0 _ rfl (aa.le_refl _)
 |cons x t=>
  by_cases hx:x=47
  ·subst hx
   by_cases hl:255<(47::t).length
   ·have hlI:(255:Int)<(((47::t:List UInt8).length:Nat):Int):=by omega
    have qaY:(255:Int)<(t.length:Int)+1:=by simp at hl;omega
    simp -implicitDefEqProofs [jG,ak,jI,qaY]
    refine h0 _ ?_ (aa.le_refl _)
    simp only[kT];rw[if_pos (.inr hl)]
   ·have qaY: ¬ (255:Int)<(t.length:Int)+1:=by simp at hl;omega
    have htl:t.length≤254:=by simp at hl;omega
    simp -implicitDefEqProofs [jG,ak,jI,qaY,gK,bH]
    have hf:kT (47::t)=xU (pieces t) []:=by simp only[kT];rw[if_neg (by simp;omega)]
    refine ai (Xt c hc hD hX hN (s:=t) (by omega) fun u H1 le1 sw=> ?_)
    obtain⟨ps,hps⟩: ∃ps,ps=pieces t:=⟨_,rfl⟩
    have hpN:ps.length≤255:=by
     rw[hps,Ct]
     have:=List.count_le_length (a:=(47:UInt8)) (l:=t)
     unfold Lib.countByte;omega
    have hsh: ∀p ∈ ps,p.length≤255:=fun p hp=>by rw[hps]at hp;have:=Qy t p hp;omega
    rw[←hps]at sw hf
    have sr:=sw.1
    obtain⟨a,cap,rfl⟩:=sw.len
    simp only[List.length_map]at sr sw ⊢
    have n1:=le1.next
    simp -implicitDefEqProofs []
    refine cz c.mono (fun k T H'=> ∃(i:Nat) (acc:List (List UInt8)),i≤ps.length∧k=ps.length-i∧T 21 = .slice a ps.length cap∧T 22 = .int .i64 ps.length∧T 23 = .int .i64 i∧kT (47::t)=xU (ps.drop i) acc∧acc.length≤i∧H1.le H'∧Rm H' H1.next (T 4) acc) ps.length ?_ ?_
    ·refine⟨0,[],by omega,rfl,?_⟩
     simp -implicitDefEqProofs []
     exact⟨hf,aa.le_refl _,.inl ⟨rfl,rfl⟩⟩
    ·rintro k T H' ⟨i,acc,hi,rfl,t21,t22,t23,hfo,hal,hle,hrm⟩
     have nn:=hle.next
     by_cases hin:i<ps.length
     ·have SE:(i:Int)<(ps.length:Int):=by omega
      obtain⟨x,hx⟩: ∃x,x=ps[i]:=⟨_,rfl⟩
      have hxe:ps[i]? =some x:=by rw[hx,List.getElem?_eq_getElem hin]
      have hdr:ps.drop i=x::ps.drop (i+1):=by rw[hx];exact List.drop_eq_getElem_cons hin
      have hxl:x.length≤255:=hsh x (by rw[hx];exact List.getElem_mem hin)
      rw[hdr]at hfo
      simp only[xU]at hfo
      obtain⟨b,o,cp,cs,ro,e1,hb,hget,hrow⟩:=sr.at1 (i:=i) (x:=ak x) (by simp[hxe,nH])
      rw[List.length_map]at e1
      simp only[Value.slice.injEq]at e1
      obtain⟨rfl,-,rfl⟩:=e1
      have kD:=(hle.get b hb).trans hget
      have hw:IntKind.i64.wrap ((i:Int)+1)=(i:Int)+1:=wrap64 (by omega) (by omega)
      by_cases c1:x=[]∨x=[46]
      ·rw[if_pos c1]at hfo
       rcases c1 with rfl|rfl
       ·simp -implicitDefEqProofs [t21,t22,t23,hin,SE,kD,hrow,ak,jI,hw]
        exact⟨ps.length-(i+1),by omega,i+1,by omega,rfl,by simp,acc,hfo,by omega,hle,hrm⟩
       ·simp -implicitDefEqProofs [t21,t22,t23,hin,SE,kD,hrow,ak,jI,hw]
        exact⟨ps.length-(i+1),by omega,i+1,by omega,rfl,by simp,acc,hfo,by omega,hle,hrm⟩
      ·rw[if_neg c1]at hfo
       obtain⟨c1a,c1b⟩: ¬ x=[]∧¬ x=[46]:=⟨fun e=>c1 (.inl e),fun e=>c1 (.inr e)⟩
       by_cases c2:x=[46,46]
       ·rw[if_pos c2]at hfo
        subst c2
        obtain⟨a4,cap4,e4⟩:=hrm.len
        rw[e4]at hrm
        obtain⟨v',hs1,hs2⟩:=hrm.pop
        have hmx:(if IntKind.i64.wrap ((acc.length:Int)-1)<0 then (0:Int)else IntKind.i64.wrap ((acc.length:Int)-1))=((acc.length-1:Nat):Int):=by
         rw[wrap64 (by omega) (by omega)]
         split <;> omega
        have hna:(0:Int)≤((acc.length-1:Nat):Int):=by omega
        simp -implicitDefEqProofs [t21,t22,t23,hin,SE,kD,hrow,ak,jI,hw,e4,hmx,hna,gK,bH,hs1]
        exact⟨ps.length-(i+1),by omega,i+1,by omega,rfl,by simp,acc.dropLast,by simpa[c1a,c1b]using hfo,by simp;omega,hle,hs2⟩
       ·rw[if_neg c2]at hfo
        simp -implicitDefEqProofs [t21,t22,t23,hin,SE,kD,hrow,ak,jI,hw,c1a,c1b,c2]
        refine ai (Sw c hD hX.idx (s:=x) (by omega) ?_)
        cases hnb:lm x with
        |false=>
         rw[hnb]at hfo
         simp -implicitDefEqProofs []
         exact h0 _ (by simpa using hfo) (le1.trans hle)
        |true=>
         rw[hnb]at hfo
         obtain⟨v',H3,ha1,ha2,ha3⟩:=(hrm.keep (H'.ax (.cells [ak x] false))).app (by simp only[YX];omega) (by omega) x
         have hf4:aY (H'.alloc (.cells [ak x] false)) 1 1 (.slice (some ⟨H'.next,0,none⟩) 1 1)=some [ak x]:=by simp[aY,aa.aT,YV]
         simp only[ak]at ha1 hf4
         simp -implicitDefEqProofs [t21,t22,t23,iN,hf4,ha1,hw,ak]
         exact⟨ps.length-(i+1),by omega,i+1,by omega,rfl,by simp,acc++[x],by simpa using hfo,by simp;omega,(hle.trans (H'.ax _)).then ha3 (Nat.le_refl _),ha2⟩
     ·have SE: ¬ (i:Int)<(ps.length:Int):=by omega
      have hdn:ps.drop i=[]:=List.drop_eq_nil_of_le (by omega)
      rw[hdn]at hfo
      simp only[xU]at hfo
      simp -implicitDefEqProofs [t21,t22,t23,hin,SE]
      exact h1 acc _ _ hfo (le1.trans hle) (hrm.weak n1)
  ·have hx': ¬ ((x.toNat:Int)=47):=fun e=>by
    have h47:x.toNat=(47:UInt8).toNat:=by show x.toNat=47;omega
    exact hx (UInt8.toNat_inj.1 h47)
   simp -implicitDefEqProofs [jG,ak,jI,hx']
   refine h0 _ ?_ (aa.le_refl _)
   simp only[kT];rw[if_pos (.inl hx)]
end
end
section
def r9 (s t:List UInt8):Bool:=match kT s,kT t with
 |some l,some m=>decide (l.length<m.length)&&decide (l=m.take l.length)
 |_,_=>false
section
variable (c:Ctx) (hc:dD c) (hD:bI c) (hX:jP c) (hN:kE c) {H:aa} {K:Value→aa→Prop}
include hc in
theorem qaZ {u v:Value}{l m:List (List UInt8)}(hu:Fs H 1 u (l.map nH))(hv:Fs H 1 v (m.map nH))(hl:l.length≤1000000)(hm:m.length≤1000000)(hK:K (.bool (decide (l=m))) H):
 c.C (c.F p9) [u,v] H K:=by
 refine c.enter hc.rC rfl ?_
 have hu':=hu
 have hv':=hv
 obtain⟨a,cap,rfl,_⟩:=hu
 obtain⟨a2,cap2,rfl,_⟩:=hv
 simp only[List.length_map]at hu' hv' ⊢
 by_cases hlm:l.length=m.length
 ·have qex:(l.length:Int)=(m.length:Int):=by omega
  simp -implicitDefEqProofs [eF,hlm,qex]
  refine cz c.mono (fun k T H'=> ∃i:Nat,i≤m.length∧k=m.length-i∧T 0 = .slice a m.length cap∧T 1 = .slice a2 m.length cap2∧T 12 = .int .i64 m.length∧T 13 = .int .i64 i∧H'=H∧l.take i=m.take i) m.length ?_ ?_
  ·refine⟨0,by omega,rfl,?_⟩
   simp -implicitDefEqProofs []
  ·rintro k T H' ⟨i,hi,rfl,t0,t1,t12,t13,rfl,htk⟩
   by_cases hil:i<m.length
   ·have fO:(i:Int)<(m.length:Int):=by omega
    obtain⟨x,hx⟩: ∃x,l[i]? =some x:=⟨l[i],List.getElem?_eq_getElem (by omega)⟩
    obtain⟨y,hy⟩: ∃y,m[i]? =some y:=⟨m[i],List.getElem?_eq_getElem hil⟩
    obtain⟨b,o,cp,cs,ro,e1,hb,hget,hrow⟩:=hu'.at1 (i:=i) (x:=ak x) (by simp[hx,nH])
    obtain⟨b2,o2,cp2,cs2,ro2,e2,hb2,qdq,hrow2⟩:=hv'.at1 (i:=i) (x:=ak y) (by simp[hy,nH])
    simp only[List.length_map,Value.slice.injEq]at e1 e2
    obtain⟨rfl,-,rfl⟩:=e1
    obtain⟨rfl,-,rfl⟩:=e2
    have hw:IntKind.i64.wrap ((i:Int)+1)=(i:Int)+1:=wrap64 (by omega) (by omega)
    by_cases hxy:x=y
    ·subst hxy
     simp -implicitDefEqProofs [t0,t1,t12,t13,hil,fO,hget,qdq,hrow,hrow2,ak,jI,hw]
     refine⟨m.length-(i+1),by omega,i+1,by omega,rfl,by simp,?_⟩
     rw[List.take_add_one,List.take_add_one,hx,hy,htk]
    ·have hne:l≠m:=fun e=>hxy (by rw[e,hy]at hx;injection hx with hx;exact hx.symm)
     simp -implicitDefEqProofs [t0,t1,t12,t13,hil,fO,hget,qdq,hrow,hrow2,ak,jI,hxy]
     simpa[hne]using hK
   ·have fO: ¬ (i:Int)<(m.length:Int):=by omega
    have he:l=m:=by rw[List.take_of_length_le (by omega),List.take_of_length_le (by omega)]at htk;exact htk
    simp -implicitDefEqProofs [t0,t1,t12,t13,hil,fO]
    simpa[he]using hK
 ·have qex: ¬ (l.length:Int)=(m.length:Int):=by omega
  have hne:l≠m:=fun e=>hlm (by rw[e])
  simp -implicitDefEqProofs [eF,hlm,qex]
  simpa[hne]using hK
include hc hD hX hN in
theorem Xu {s t:List UInt8}(hs:s.length≤1000000)(ht:t.length≤1000000)(hK: ∀H',H.le H'→K (.bool (r9 s t)) H'):c.C (c.F LK) [ak s,ak t] H K:=by
 refine c.enter hc.Qm rfl ?_
 unfold r9 at hK
 simp -implicitDefEqProofs [rz]
 refine ai (uF c hc hD hX hN hs (fun l v H1 e1 k1 r1=> ?_) fun H1 e1 k1=> ?_)
 ·simp -implicitDefEqProofs []
  refine ai (uF c hc hD hX hN ht (fun m w H2 e2 k2 r2=> ?_) fun H2 e2 k2=> ?_)
  ·rw[e1,e2]at hK
   have r1:=r1.keep k2
   have l1:=(uE e1).2
   have l2:=(uE e2).2
   have s1:=r1.Qp
   have s2:=r2.Xe
   obtain⟨a1,c1,rfl⟩:=r1.len
   obtain⟨a2,c2,rfl⟩:=r2.len
   by_cases hlt:l.length<m.length
   ·have qey:(l.length:Int)<(m.length:Int):=by omega
    obtain⟨v',q1,q2⟩:=s2.cut (i:=0) (j:=l.length) (by omega) (by omega) (by simp;omega)
    rw[Nat.sub_zero,List.drop_zero,←List.map_take]at q2
    simp -implicitDefEqProofs [qey,gK,bH,q1]
    refine ai (qaZ c hc s1 q2.1 (by omega) (by simp;omega) ?_)
    simp -implicitDefEqProofs []
    simpa[hlt]using hK _ (k1.trans k2)
   ·have qey: ¬ (l.length:Int)<(m.length:Int):=by omega
    simp -implicitDefEqProofs [qey]
    simpa[hlt]using hK _ (k1.trans k2)
  ·rw[e1,e2]at hK
   simp -implicitDefEqProofs []
   exact hK _ (k1.trans k2)
 ·simp -implicitDefEqProofs []
  refine ai (uF c hc hD hX hN ht (fun m w H2 e2 k2 r2=> ?_) fun H2 e2 k2=> ?_)
  ·rw[e1]at hK
   simp -implicitDefEqProofs []
   exact hK _ (k1.trans k2)
  ·rw[e1]at hK
   simp -implicitDefEqProofs []
   exact hK _ (k1.trans k2)
end
end
section
def cpS (H:aa)(d s:Value):Option (Value×aa):=match d,s with
 | .slice a dl _,.string t=>
   if Nat.min t.size dl=0 then some (.int .i64 (Nat.min t.size dl),H)else
   match a with
   |some ⟨b,o,none⟩=>(H.aK b o ((t.data.toList.take (Nat.min t.size dl)).map fun b=>.int .u8 b.toNat)).map fun H'=>(.int .i64 (Nat.min t.size dl),H')
   |_=>none
 |_,_=>none
theorem qa0 {P:Program}{T:Env}{H:aa}{d s:Operand}:fQ P T H (.jL d s)=cpS H (ev T d) (ev T s):=by
 simp only[fQ]
 generalize ev T d=x
 generalize ev T s=y
 cases x <;> first|rfl|(cases y <;> rfl)
theorem qa1 {H:aa}{b o n cp:Nat}{cs:List Value}{t:List UInt8}(hg:H.get b=some (.cells cs false))(hn:t.length≤n)(ho:o+t.length≤cs.length):
 ∃H',cpS H (.slice (some ⟨b,o,none⟩) n cp) (ak t)=some (.int .i64 t.length,H')∧H'.get b=some (.cells (putAt cs o (t.map Fu)) false)∧H'.next=H.next∧∀x,x≠b→H'.get x=H.get x:=by
 have hm:Nat.min t.length n=t.length:=Nat.min_eq_left hn
 have hsz:(ByteArray.mk t.toArray).size=t.length:=rfl
 by_cases h0:t.length=0
 ·have:t=[]:=List.length_eq_zero_iff.1 h0
  subst this
  refine⟨H,by simp[cpS,ak,hsz],?_,rfl,fun _ _=>rfl⟩
  rw[hg];simp[putAt]
 ·refine⟨H.set b (.cells (putAt cs o (t.map Fu)) false),?_,by simp[YW],rfl,fun x hx=>by rw[YW,if_neg hx]⟩
  have hall:(t.map Fu).all fo=true:=by simp[List.all_eq_true,Fu,fo]
  have hst:H.aK b o (t.map Fu)=some (H.set b (.cells (putAt cs o (t.map Fu)) false)):=by
   simp only[aa.aK,hg]
   rw[if_pos ⟨by simpa using ho,hall⟩]
  unfold cpS ak
  simp only[hsz,hm]
  rw[if_neg h0]
  simp only[List.take_length]
  show(H.aK b o (t.map Fu)).map _=_
  rw[hst];rfl
theorem Xv (l:List UInt8):gQ (l.map Fu)=some l:=by
 induction l with
 |nil=>rfl
 |cons x l ih=>simp only[List.map_cons,Fu,gQ];rw[show gQ (l.map Fu)=some l from ih];simp
def Qz (s:List UInt8)(n:Nat)(t:List UInt8):List UInt8:=
 (s++List.replicate (max s.length (n+t.length)-s.length) 0).take n++t++(s++List.replicate (max s.length (n+t.length)-s.length) 0).drop (n+t.length)
theorem MB (s:List UInt8)(n:Nat)(t:List UInt8):(Qz s n t).length=max s.length (n+t.length):=by
 unfold Qz;simp;omega
def qcS (s:List UInt8)(n:Nat):List UInt8:=s++Lib.repeatL [0] (n-s.length)
section
variable (c:Ctx) (hc:dD c) (hR:Mx c) {H:aa} {K:Value→aa→Prop}
include hc hR in
theorem qez {s:List UInt8}{n:Nat}(h1:s.length≤n)(h2:n≤65536)(hK:K (.tuple #[ak (qcS s n),.int .i64 0]) H):c.C (c.F Sb) [ak s,.int .i64 n] H K:=by
 refine c.enter hc.Xb rfl ?_
 have a1: ¬ (n:Int)<0:=by omega
 have a2: ¬ (65536:Int)<(n:Int):=by omega
 have a3: ¬ (n:Int)<(s.length:Int):=by omega
 have a4: ¬ n<s.length:=by omega
 have w1:IntKind.i64.wrap ((n:Int)-(s.length:Int))=((n-s.length:Nat):Int):=by rw[wrap64 (by omega) (by omega)];omega
 simp -implicitDefEqProofs [xN,ak,a1,a2,a3,a4,w1]
 refine ai (c.enter hc.Sg rfl ?_)
 simp -implicitDefEqProofs [tu]
 refine ai (hR [0] (n-s.length) _ _ (by omega) (by simp;omega) ?_)
 have hl: ¬ (9223372036854775807:Int)<((ByteArray.mk s.toArray).size:Int)+((ByteArray.mk (Lib.repeatL [0] (n-s.length)).toArray).size:Int):=by
  show ¬ (9223372036854775807:Int)<(s.length:Int)+((Lib.repeatL [0] (n-s.length)).length:Int)
  rw[Lib.repeatL_length];simp;omega
 simp -implicitDefEqProofs [ak,jI,hl]
 exact hK
include hc in
theorem qeA {s t:List UInt8}{n:Nat}(h0:t≠[])(h1:s.length≤65536)(h2:t.length≤65536)(h3:n+t.length≤65536)(hK: ∀H',H.le H'→K (.tuple #[ak (Qz s n t),.int .i64 0]) H'):c.C (c.F Sc) [ak s,.int .i64 n,ak t] H K:=by
 refine c.enter hc.Xc rfl ?_
 obtain⟨N,hN⟩: ∃N,N=max s.length (n+t.length):=⟨_,rfl⟩
 have a1: ¬ (n:Int)<0:=by omega
 have a2: ¬ (65536:Int)<(s.length:Int):=by omega
 have a3: ¬ (65536:Int)<(t.length:Int):=by omega
 have a2': ¬ 65536<s.length:=by omega
 have a3': ¬ 65536<t.length:=by omega
 have w1:IntKind.i64.wrap ((65536:Int)-(t.length:Int))=65536-(t.length:Int):=wrap64 (by omega) (by omega)
 have a4: ¬ (65536:Int)-(t.length:Int)<(n:Int):=by omega
 have w2:IntKind.i64.wrap ((n:Int)+(t.length:Int))=(n:Int)+(t.length:Int):=wrap64 (by omega) (by omega)
 have hmx:(if (s.length:Int)<(n:Int)+(t.length:Int)then (n:Int)+(t.length:Int)else (s.length:Int))=(N:Int):=by split <;> omega
 have hb1:(N:Int)≤17592186044416:=by omega
 have hmk:List.map (fun x=>[Value.int IntKind.u8 0][x % 1]?.getD default) (List.range N)=List.replicate N (Fu 0):=by
  apply List.ext_getElem?
  intro i
  simp
  by_cases h:i<N
  ·simp[h,Nat.mod_one,Fu]
  ·simp[h]
 obtain⟨X,hX⟩: ∃X:aa,X=H.alloc (.cells (List.replicate N (Fu 0)) false):=⟨_,rfl⟩
 have gX:X.get H.next=some (.cells ((List.replicate N (0:UInt8)).map Fu) false):=by rw[hX,List.map_replicate];simp[YV]
 have nX:X.next=H.next+1:=by rw[hX];rfl
 have kX:H.le X:=by rw[hX];exact H.ax _
 obtain⟨Y,e1,gY,nY,fY⟩:=qa1 (n:=N) (cp:=N) (o:=0) (t:=s) gX (by omega) (by simp;omega)
 have pY:putAt ((List.replicate N (0:UInt8)).map Fu) 0 (s.map Fu)=(s++List.replicate (N-s.length) 0).map Fu:=by
  unfold putAt;simp
 rw[pY]at gY
 have tl:0<t.length:=List.length_pos_iff.2 h0
 obtain⟨Z,e2,gZ,nZ,fZ⟩:=qa1 (n:=N-n) (cp:=N-n) (o:=n) (t:=t) gY (by omega) (by simp;omega)
 have pZ:putAt ((s++List.replicate (N-s.length) 0).map Fu) n (t.map Fu)=(Qz s n t).map Fu:=by
  unfold putAt Qz
  rw[←hN]
  simp only[List.length_map,List.map_append,List.map_take,List.map_drop]
 rw[pZ]at gZ
 have hpl:=MB s n t
 rw[←hN]at hpl
 have hb2:=Xv (Qz s n t)
 have hnN: ¬ N=n:=by omega
 have qlk:n≤N:=by omega
 have hUN:N<9223372036854775808:=by omega
 have hn0:(0:Int)≤(n:Int):=by omega
 have htk:List.take N ((Qz s n t).map Fu)=(Qz s n t).map Fu:=List.take_of_length_le (by simp;omega)
 have hif:(if n=0 then ({block:=H.next,off:=0}:Addr)else {block:=H.next,off:=n})={block:=H.next,off:=n}:=by split <;> simp_all
 simp only[ak]at e1 e2
 simp -implicitDefEqProofs [xO,ak,a1,a2,a3,a2',a3',w1,a4,w2,hmx,hb1,hmk,qa0,←hX,e1,gK,bH,bK,dQ,hnN,qlk,hUN,hn0,Addr.add,hif,e2,gZ,hpl,htk,hb2]
 exact hK Z ⟨by omega,fun b hb=>by rw[fZ b (by omega),fY b (by omega)];exact kX.get b hb⟩
end
end
end
inductive oN where
 |file (s:List UInt8) (k:Int)
 |dir (L:List aP)
structure aQ where
 gen:Int
 total:Int
 l:Nat→Option (Int×oN)
abbrev nu:=Nat→Nat
def ku (T:aQ)(n:Nat):Value:=.int .i64 ((T.l n).elim 0 (·.1))
def Dp (F D:TypeId)(x:Nat):oN→Value
 | .file _ _=>.iface F (.pointer (some ⟨x,0,none⟩))
 | .dir _=>.iface D (.agg #[.pointer (some ⟨x,0,none⟩)])
def dH (F D:TypeId)(a:Nat→Nat)(T:aQ)(n:Nat):Value:=(T.l n).elim .nilIface fun x=>Dp F D (a n) x.2
def mi (F D:TypeId)(a:Nat→Nat)(T:aQ)(i:Nat):Value:=if i<512 then (if i % 2=0 then ku T (i/2)else dH F D a T (i/2))else if i=512 then .int .i64 T.gen else .int .i64 T.total
def aN (F D:TypeId)(a:Nat→Nat)(T:aQ):List Value:=(List.range 514).map (mi F D a T)
theorem aX (F D:TypeId)(a:Nat→Nat)(T:aQ):(aN F D a T).length=514:=by simp[aN]
theorem ny {F D:TypeId}{a:Nat→Nat}{T:aQ}{i:Nat}(h:i<514):(aN F D a T)[i]? =some (mi F D a T i):=by simp[aN,h]
theorem GG {F D:TypeId}{a:Nat→Nat}{T:aQ}{n:Nat}(h:n<256):(aN F D a T)[n*2]? =some (ku T n):=by
 rw[ny (by omega)];unfold mi;rw[if_pos (by omega),if_pos (by omega)];congr 2;omega
theorem oO {F D:TypeId}{a:Nat→Nat}{T:aQ}{n:Nat}(h:n<256):(aN F D a T)[n*2+1]? =some (dH F D a T n):=by
 rw[ny (by omega)];unfold mi;rw[if_pos (by omega),if_neg (by omega)];congr 2;omega
theorem uG {F D:TypeId}{a:Nat→Nat}{T:aQ}:(aN F D a T)[512]? =some (.int .i64 T.gen):=by rw[ny (by omega)];rfl
theorem yS {F D:TypeId}{a:Nat→Nat}{T:aQ}:(aN F D a T)[513]? =some (.int .i64 T.total):=by rw[ny (by omega)];rfl
theorem yT {F D:TypeId}{a a':Nat→Nat}{T T':aQ}{cs:List Value}(hl:cs.length=514)(h: ∀i,i<514→cs[i]? =some (mi F D a' T' i)):cs=aN F D a' T':=by
 apply List.ext_getElem?
 intro i
 by_cases hi:i<514
 ·rw[h i hi,ny hi]
 ·rw[List.getElem?_eq_none (by omega),List.getElem?_eq_none (by rw[aX];omega)]
def nA (w:nu)(H:aa)(x n:Nat):oN→Prop
 | .file s k=>x<H.next∧w x=n+2∧H.get x=some (.cells [ak s,.int .i64 k] false)
 | .dir L=>Dn (fun b=>b<H.next∧w b≠n+2) H x L
structure gu (F D:TypeId)(w:nu)(a:Nat→Nat)(H:aa)(p:Nat)(T:aQ):Prop where
 lt:p<H.next
 own:w p=1
 get:H.get p=some (.cells (aN F D a T) false)
 node: ∀n x,T.l n=some x→nA w H (a n) n x.2
 new: ∀b,H.next≤b→w b=0
 far: ∀n x,T.l n=some x→1≤n∧n<256
theorem qa2 {w w':nu}{H H':aa}{x k:Nat}{L:List aP}(h:Dn (fun b=>b<H.next∧w b≠k) H x L)(hn:H.next≤H'.next)(hg: ∀b,b<H.next→w b=k→H'.get b=H.get b)
 (hw: ∀b,b<H.next→w' b=w b) (hnew: ∀b,H.next≤b→w' b≠k):Dn (fun b=>b<H'.next∧w' b≠k) H' x L:=by
 obtain⟨h1,h2,q,hd,h4⟩:=h
 have hx:w x=k:=Classical.byContradiction fun e=>h2 ⟨hd.lt,e⟩
 have hgx:=hg x hd.lt hx
 obtain⟨u,g1,g2⟩:=hd.rep
 refine⟨fun b hb=>hb.1,fun hb=>hb.2 (by rw[hw x hd.lt,hx]),?_⟩
 by_cases hq:q<H.next
 ·have hqk:w q=k:=Classical.byContradiction fun e=>h4 ⟨hq,e⟩
  refine⟨q,⟨Nat.lt_of_lt_of_le hd.lt hn,hd.ne,⟨u,by rw[hgx,g1],?_⟩,hd.sorted⟩,fun hb=>hb.2 (by rw[hw q hq,hqk])⟩
  rcases g2 with g2|⟨cs,c1,c2,c3,c4⟩
  ·exact .inl g2
  ·exact .inr ⟨cs,Nat.lt_of_lt_of_le c1 hn,c2,by rw[hg q hq hqk];exact c3,c4⟩
 ·refine⟨H'.next,⟨Nat.lt_of_lt_of_le hd.lt hn,by have:=hd.lt;omega,⟨u,by rw[hgx,g1],?_⟩,hd.sorted⟩,fun hb=>by omega⟩
  rcases g2 with g2|⟨cs,c1,_⟩
  ·exact .inl g2
  ·exact absurd c1 hq
theorem nA.keep {w w':nu}{H H':aa}{x n:Nat}{d:oN}(h:nA w H x n d)(hn:H.next≤H'.next)(hg: ∀b,b<H.next→w b=n+2→H'.get b=H.get b)
 (hw: ∀b,b<H.next→w' b=w b) (hnew: ∀b,H.next≤b→w' b≠n+2):nA w' H' x n d:=by
 cases d with
 |file s k=>obtain⟨h1,h2,h3⟩:=h;exact⟨Nat.lt_of_lt_of_le h1 hn,by rw[hw _ h1,h2],by rw[hg _ h1 h2,h3]⟩
 |dir L=>exact qa2 h hn hg hw hnew
theorem gu.keep {F D:TypeId}{w:nu}{a:Nat→Nat}{H H':aa}{p:Nat}{T:aQ}(h:gu F D w a H p T)(hn:H.next≤H'.next)(hg: ∀b,b<H.next→w b≠0→H'.get b=H.get b):gu F D w a H' p T:=
 ⟨Nat.lt_of_lt_of_le h.lt hn,h.own,by rw[hg p h.lt (by rw[h.own];omega)];exact h.get,
  fun n x hx=>(h.node n x hx).keep hn (fun b hb e=>hg b hb (by rw[e];omega)) (fun _ _=>rfl) (fun b hb=>by rw[h.new b hb];omega),fun b hb=>h.new b (Nat.le_trans hn hb),h.far⟩
theorem gu.le {F D:TypeId}{w:nu}{a:Nat→Nat}{H H':aa}{p:Nat}{T:aQ}(h:gu F D w a H p T)(k:H.le H'):gu F D w a H' p T:=h.keep k.next fun b hb _=>k.get b hb
structure Mv (w w':nu)(H H':aa):Prop where
 next:H.next≤H'.next
 get: ∀b,b<H.next→w b=0→H'.get b=H.get b
 lab: ∀b,b<H.next→w b=0→w' b=0
theorem Mv.refl (w:nu)(H:aa):Mv w w H H:=⟨Nat.le_refl _,fun _ _ _=>rfl,fun _ _ h=>h⟩
theorem Mv.trans {w w1 w2:nu}{A B C:aa}(h:Mv w w1 A B)(k:Mv w1 w2 B C):Mv w w2 A C:=
 ⟨Nat.le_trans h.next k.next,fun b hb h0=>(k.get b (Nat.lt_of_lt_of_le hb h.next) (h.lab b hb h0)).trans (h.get b hb h0),fun b hb h0=>k.lab b (Nat.lt_of_lt_of_le hb h.next) (h.lab b hb h0)⟩
theorem aa.le.mv {H H':aa}(h:H.le H')(w:nu):Mv w w H H':=⟨h.next,fun b hb _=>h.get b hb,fun _ _ h=>h⟩
def dZ (w:nu)(A B k:Nat):nu:=fun b=>if b<A then w b else if b<B then k else 0
def aQ.put (T:aQ)(n:Nat)(x:Option (Int×oN)):aQ:={T with l:=fun m=>if m=n then x else T.l m}
section
attribute [local simp] J0 J1 J2 J3 J4 J5 J6 J7 J8 J9 Ja Jb Jc Jd Je Jf Jg Jh Ji Jj Jk Jl Jm Jn Jo Jp Jq Jr Js Jt Ju Jv Jw Jx Jy Jz JA JB JC JD JE JF JG JH JI JJ JK JL JM JN JO JP JQ JR JS bE bO.kind JT JU JV JW JX JY JZ Y0 Y1 Y2 Y3 Y4 Y5 Y6 Y7 Y8 Y9 Ya Yb Yc Yd Ye Yf Yg Yh Yi Yj Yk Yl Ym Yn Yo Yp Yq j3 Yr Ys Yt Yu Yv Yw Yx Yy gy di dI Yz YA YB YC YD YE fq YF YG YH YI YJ YK YL YM YN YO YP YQ YR YS YT YU sP bS kF qm bZ putAt aa.aj aa.aT aa.aK YV YW YX YY YZ B0 B1 B2 B3 B4 B5 B6 B7 B8 B9 Ba Bb Bc Bd Be Bf Bg Bh Bi Bj Bk Bl Bm Bn Bo Bp
section
def aS (T:aQ)(n:Nat):Option (List aP):=match T.l n with
 |some (_,.dir L)=>some L
 |_=>none
def dS (T:aQ)(n:Nat):Option (List UInt8×Int):=match T.l n with
 |some (_,.file s k)=>some (s,k)
 |_=>none
def IR (b:Bool)(x:Nat):Value:=if b then .pointer (some ⟨x,0,none⟩)else .pointer none
structure aQ.ok (T:aQ):Prop where
 dir: ∀n L,aS T n=some L→L.length≤1000∧∀e ∈ L,NJ e
 file: ∀n s k,dS T n=some (s,k)→s.length≤16384∧1≤k∧k≤100
 tot:0≤T.total∧T.total≤65536
 root: ∃L,aS T 1=some L
 here: ∀n L,aS T n=some L→∀e ∈ L,∃x,T.l e.ino.toNat=some x
theorem gu.dir {F D:TypeId}{w:nu}{a:Nat→Nat}{H:aa}{p n:Nat}{T:aQ}{L:List aP}(h:gu F D w a H p T)(hd:aS T n=some L):Dn (fun b=>b<H.next∧w b≠n+2) H (a n) L:=by
 unfold aS at hd
 split at hd
 ·rename_i g L' hx
  injection hd with hd;subst hd
  exact h.node n _ hx
 ·cases hd
theorem SF {L:List aP}{s:List UInt8}(h: ∀e ∈ L,NJ e)(h0:(bF L s).2=0):1≤(bF L s).1∧(bF L s).1<256:=by
 unfold bF at h0 ⊢
 by_cases ht:iE L s=true
 ·rw[if_pos ht]at h0 ⊢
  obtain⟨ino,hi⟩:=xS ht
  have:=h _ (List.mem_of_getElem? hi)
  simp only[NI,hi]
  exact⟨this.2.1,this.2.2⟩
 ·rw[if_neg ht]at h0;exact absurd h0 (by decide)
def eO (T:aQ):List (List UInt8)→Nat→Nat×Int
 |[],n=>(n,0)
 |s::l,n=>match aS T n with
  |some L=>if (bF L s).2=0 then eO T l (bF L s).1.toNat else (0,(bF L s).2)
  |none=>(0,13)
section
variable (c:Ctx) (hc:dP c) (hP:dD c) (hD:bI c) (hX:jP c) (hN:kE c) (hTy:c.Ty 14≠c.Ty 13) {H:aa} {K:Value→aa→Prop} {w:nu} {a:Nat→Nat} {p:Nat} {T:aQ}
include hc hTy in
theorem si {n:Nat}(h:gu (c.Ty 14) (c.Ty 13) w a H p T)(hn:n<256)(hK: ∀H',H.le H'→K (IR (aS T n).isSome (a n)) H'):c.C (c.F Iu) [.pointer (some ⟨p,0,none⟩),.int .i64 n] H K:=by
 refine c.enter hc.Nz rfl ?_
 have hg:=h.get
 have NM:(n:Int)<256:=by omega
 have hc1:=oO (F:=c.Ty 14) (D:=c.Ty 13) (a:=a) (T:=T) hn
 unfold dH at hc1
 have hle:=H.ax (.cells [.pointer none] false)
 unfold aS at hK
 cases hx:T.l n with
 |none=>
  rw[hx]at hc1 hK
  simp only[Option.elim_none]at hc1
  simp -implicitDefEqProofs [jC,hg,hn,NM,hc1]
  exact hK _ (hle.set (Nat.le_refl _) _)
 |some x=>
  obtain⟨g,d⟩:=x
  cases d with
  |file s k=>
   rw[hx]at hc1 hK
   simp only[Option.elim_some,Dp]at hc1
   simp -implicitDefEqProofs [jC,hg,hn,NM,hc1,hTy]
   exact hK _ (hle.set (Nat.le_refl _) _)
  |dir L=>
   rw[hx]at hc1 hK
   simp only[Option.elim_some,Dp]at hc1
   simp -implicitDefEqProofs [jC,hg,hn,NM,hc1]
   exact hK _ (hle.set (Nat.le_refl _) _)
include hc hTy in
theorem xV {n:Nat}(h:gu (c.Ty 14) (c.Ty 13) w a H p T)(hn:n<256)(hK:K (IR (dS T n).isSome (a n)) H):c.C (c.F Gd) [.pointer (some ⟨p,0,none⟩),.int .i64 n] H K:=by
 refine c.enter hc.LX rfl ?_
 have hg:=h.get
 have NM:(n:Int)<256:=by omega
 have hc1:=oO (F:=c.Ty 14) (D:=c.Ty 13) (a:=a) (T:=T) hn
 have QA: ¬ c.Ty 13=c.Ty 14:=fun e=>hTy e.symm
 unfold dH at hc1
 unfold dS at hK
 cases hx:T.l n with
 |none=>
  rw[hx]at hc1 hK
  simp only[Option.elim_none]at hc1
  simp -implicitDefEqProofs [iZ,hg,hn,NM,hc1]
  exact hK
 |some x=>
  obtain⟨g,d⟩:=x
  cases d with
  |file s k=>
   rw[hx]at hc1 hK
   simp only[Option.elim_some,Dp]at hc1
   simp -implicitDefEqProofs [iZ,hg,hn,NM,hc1]
   exact hK
  |dir L=>
   rw[hx]at hc1 hK
   simp only[Option.elim_some,Dp]at hc1
   simp -implicitDefEqProofs [iZ,hg,hn,NM,hc1,QA]
   exact hK
include hc hD hTy in
theorem SG {u:Value}{l:List (List UInt8)}(h:gu (c.Ty 14) (c.Ty 13) w a H p T)(hT:T.ok)(hu:Fs H 1 u (l.map nH))(hl:l.length≤1000000)
 (hK: ∀H',H.le H'→K (.tuple #[.int .i64 (eO T l 1).1,.int .i64 (eO T l 1).2]) H'):c.C (c.F Gm) [.pointer (some ⟨p,0,none⟩),u] H K:=by
 refine c.enter hc.Mc rfl ?_
 have hu':=hu
 obtain⟨a0,cap,rfl,_⟩:=hu
 simp only[List.length_map]at hu' ⊢
 simp -implicitDefEqProofs [oq]
 refine cz c.mono (fun k E H'=> ∃(i n:Nat),i≤l.length∧k=l.length-i∧E 0 = .pointer (some ⟨p,0,none⟩)∧E 12 = .slice a0 l.length cap∧E 13 = .int .i64 l.length∧E 14 = .int .i64 i∧E 6 = .int .i64 n∧n<256∧H.le H'∧eO T l 1=eO T (l.drop i) n) l.length ?_ ?_
 ·refine⟨0,1,by omega,rfl,?_⟩
  simp -implicitDefEqProofs []
  exact aa.le_refl _
 ·rintro k E H' ⟨i,n,hi,rfl,e0,e12,e13,e14,e6,hn,hle,hwk⟩
  by_cases hil:i<l.length
  ·have fO:(i:Int)<(l.length:Int):=by omega
   obtain⟨x,hx⟩: ∃x,l[i]? =some x:=⟨l[i],List.getElem?_eq_getElem hil⟩
   obtain⟨b,o,cp,cs,ro,e1,hb,hget,hrow⟩:=hu'.at1 (i:=i) (x:=ak x) (by simp[hx,nH])
   rw[List.length_map]at e1
   simp only[Value.slice.injEq]at e1
   obtain⟨rfl,-,rfl⟩:=e1
   have kD:=(hle.get b hb).trans hget
   have hw:IntKind.i64.wrap ((i:Int)+1)=(i:Int)+1:=wrap64 (by omega) (by omega)
   have hdr:l.drop i=x::l.drop (i+1):=by
    have:=List.getElem?_eq_some_iff.1 hx
    obtain⟨h1,h2⟩:=this
    rw[←h2];exact List.drop_eq_getElem_cons h1
   rw[hdr]at hwk
   simp only[eO]at hwk
   simp -implicitDefEqProofs [e0,e12,e13,e14,e6,hil,fO,kD,hrow]
   refine ai (si c hc hTy (h.le hle) hn fun H2 k2=> ?_)
   cases hd:aS T n with
   |none=>
    rw[hd]at hwk
    simp only[Option.isSome_none,IR]
    simp -implicitDefEqProofs [aU]
    rw[hwk]at hK
    exact hK _ (hle.trans k2)
   |some L=>
    rw[hd]at hwk
    simp only[Option.isSome_some,IR]
    simp -implicitDefEqProofs [aU]
    obtain⟨hL,hok⟩:=hT.dir n L hd
    refine ai (Qx c hD ((h.le (hle.trans k2)).dir hd) (s:=x) (by omega) fun H3 k3=> ?_)
    by_cases h0:(bF L x).2=0
    ·simp only[if_pos h0]at hwk
     obtain⟨o1,o2⟩:=SF hok h0
     obtain⟨m,hm⟩: ∃m:Nat,(bF L x).1=(m:Int):=⟨(bF L x).1.toNat,by omega⟩
     rw[hm]at hwk ⊢
     simp -implicitDefEqProofs [e0,e12,e13,e14,e6,h0,hw]
     refine⟨l.length-(i+1),by omega,i+1,by omega,rfl,by simp,m,rfl,by omega,(hle.trans k2).trans k3,?_⟩
     rw[hwk];rfl
    ·simp only[if_neg h0]at hwk
     simp -implicitDefEqProofs [e0,e12,e13,e14,e6,h0]
     rw[hwk]at hK
     exact hK _ ((hle.trans k2).trans k3)
  ·have fO: ¬ (i:Int)<(l.length:Int):=by omega
   have hdn:l.drop i=[]:=List.drop_eq_nil_of_le (by omega)
   rw[hdn]at hwk
   simp only[eO]at hwk
   simp -implicitDefEqProofs [e0,e12,e13,e14,e6,hil,fO]
   rw[hwk]at hK
   exact hK _ hle
end
end
section
def aR (T:aQ)(s:List UInt8):Nat×Int:=match kT s with
 |none=>(0,15)
 |some l=>eO T l 1
def cK (T:aQ)(s:List UInt8):Option (Nat×List UInt8)×Int:=match kT s with
 |none=>(none,15)
 |some l=>match l.getLast? with
  |none=>(none,15)
  |some x=>if (eO T l.dropLast 1).2≠0 then (none,(eO T l.dropLast 1).2)else match aS T (eO T l.dropLast 1).1 with
   |none=>(none,13)
   |some _=>(some ((eO T l.dropLast 1).1,x),0)
def sj (a:Nat→Nat):Option (Nat×List UInt8)→Value
 |none=>.agg #[.pointer none,ak []]
 |some (n,s)=>.agg #[.pointer (some ⟨a n,0,none⟩),ak s]
theorem MC {T:aQ}(hT:T.ok): ∀(l:List (List UInt8)) (n:Nat),n<256→(eO T l n).1<256
 |[],n,h=>h
 |s::l,n,h=>by
  simp only[eO]
  cases hd:aS T n with
  |none=>simp
  |some L=>
   simp only[]
   by_cases h0:(bF L s).2=0
   ·rw[if_pos h0]
    obtain⟨o1,o2⟩:=SF (hT.dir n L hd).2 h0
    exact MC hT l _ (by omega)
   ·rw[if_neg h0];simp
section
variable (c:Ctx) (hc:dP c) (hP:dD c) (hD:bI c) (hX:jP c) (hN:kE c) (hTy:c.Ty 14≠c.Ty 13) {H:aa} {K:Value→aa→Prop} {w:nu} {a:Nat→Nat} {p:Nat} {T:aQ}
include hc hP hD hX hN hTy in
theorem rE {s:List UInt8}(h:gu (c.Ty 14) (c.Ty 13) w a H p T)(hT:T.ok)(hs:s.length≤1000000)(hK: ∀H',H.le H'→K (.tuple #[.int .i64 (aR T s).1,.int .i64 (aR T s).2]) H'):
 c.C (c.F Gc) [.pointer (some ⟨p,0,none⟩),ak s] H K:=by
 refine c.enter hc.LW rfl ?_
 unfold aR at hK
 simp -implicitDefEqProofs [og,aU]
 refine ai (uF c hP hD hX hN hs (fun l v H1 e1 k1 r1=> ?_) fun H1 e1 k1=> ?_)
 ·rw[e1]at hK
  simp -implicitDefEqProofs []
  refine ai (SG c hc hD hTy (h.le k1) hT r1.Qp (by have:=(uE e1).2;omega) fun H2 k2=> ?_)
  simp -implicitDefEqProofs []
  exact hK _ (k1.trans k2)
 ·rw[e1]at hK
  simp -implicitDefEqProofs []
  exact hK _ k1
include hc hD in
theorem GH {n:Nat}{s:List UInt8}{L:List aP}(h:gu (c.Ty 14) (c.Ty 13) w a H p T)(hd:aS T n=some L)(hL:L.length≤1000000)(hK: ∀H',H.le H'→K (.bool (decide ((bF L s).2=0))) H'):
 c.C (c.F Ex) [sj a (some (n,s))] H K:=by
 refine c.enter hc.IG rfl ?_
 have hle:=H.ax (.cells [.pointer (some ⟨a n,0,none⟩),ak s] false)
 simp -implicitDefEqProofs [ng,sj]
 refine ai (Qx c hD ((h.le hle).dir hd) (s:=s) hL fun H2 k2=> ?_)
 simp -implicitDefEqProofs []
 exact hK _ (hle.trans k2)
include hc hP hD hX hN hTy in
theorem oP {s:List UInt8}(h:gu (c.Ty 14) (c.Ty 13) w a H p T)(hT:T.ok)(hs:s.length≤1000000)(hK: ∀H',H.le H'→K (.tuple #[sj a (cK T s).1,.int .i64 (cK T s).2]) H'):
 c.C (c.F Ci) [.pointer (some ⟨p,0,none⟩),ak s] H K:=by
 refine c.enter hc.Gu rfl ?_
 unfold cK at hK
 obtain⟨X,hX0⟩: ∃X:aa,X=H.alloc (.cells [.pointer none,.string ⟨#[]⟩] false):=⟨_,rfl⟩
 have gX:X.get H.next=some (.cells [.pointer none,.string ⟨#[]⟩] false):=by rw[hX0];simp[YV]
 have nX:X.next=H.next+1:=by rw[hX0];rfl
 have kX:H.le X:=by rw[hX0];exact H.ax _
 simp -implicitDefEqProofs [lW,aU,←hX0]
 refine ai (uF c hP hD hX hN hs (fun l v H1 e1 k1 r1=> ?_) fun H1 e1 k1=> ?_)
 ·have g1:=(k1.get _ (by omega:H.next<X.next)).trans gX
  have n1:=k1.next
  rw[e1]at hK
  have qlA:=(uE e1).2
  have sw:=r1.Xe
  have sr:=r1.Qp
  obtain⟨a0,cap,rfl⟩:=r1.len
  cases hlast:l.getLast? with
  |none=>
   have hl0:l=[]:=by simpa using hlast
   subst hl0
   simp only[List.getLast?_nil]at hK
   simp -implicitDefEqProofs [g1]
   exact hK _ ((kX.trans k1).set (Nat.le_refl _) _)
  |some x=>
   simp only[hlast]at hK
   have hne:l≠[]:=fun e=>by rw[e]at hlast;cases hlast
   have hpos:0<l.length:=List.length_pos_iff.2 hne
   have hl0: ¬ l.length=0:=by omega
   have qeB: ¬ (l.length:Int)=0:=by omega
   have w1:IntKind.i64.wrap ((l.length:Int)-1)=((l.length-1:Nat):Int):=by rw[wrap64 (by omega) (by omega)];omega
   have hna:(0:Int)≤((l.length-1:Nat):Int):=by omega
   obtain⟨v',q1,q2⟩:=sw.cut (i:=0) (j:=l.length-1) (by omega) (by omega) (by simp)
   rw[Nat.sub_zero,List.drop_zero,←List.map_take,←List.dropLast_eq_take]at q2
   simp -implicitDefEqProofs [hl0,qeB,hne,w1,hna,gK,bH,q1,e1]
   refine ai (SG c hc hD hTy (h.le (kX.trans k1)) hT q2.1 (by rw[List.length_dropLast];omega) fun H2 k2=> ?_)
   have g2:=(k2.get _ (by omega:H.next<H1.next)).trans g1
   have n2:=k2.next
   have hwl:=MC hT l.dropLast 1 (by omega)
   by_cases hw0:(eO T l.dropLast 1).2=0
   ·have qll: ¬ (eO T l.dropLast 1).2≠0:=fun e=>e hw0
    simp only[if_neg qll]at hK
    simp -implicitDefEqProofs [hw0]
    refine ai (si c hc hTy (h.le ((kX.trans k1).trans k2)) hwl fun H3 k3=> ?_)
    have g3:=(k3.get _ (by omega:H.next<H2.next)).trans g2
    have n3:=k3.next
    cases hd:aS T (eO T l.dropLast 1).1 with
    |none=>
     simp only[hd]at hK
     simp only[Option.isSome_none,IR]
     simp -implicitDefEqProofs [g3,aU]
     exact hK _ ((((kX.trans k1).trans k2).trans k3).set (Nat.le_refl _) _)
    |some L=>
     simp only[hd]at hK
     have hx:l[l.length-1]? =some x:=by rw[←List.getLast?_eq_getElem?];exact hlast
     obtain⟨b,o,cp,cs,ro,f1,hb,hget,hrow⟩:=sr.at1 (i:=l.length-1) (x:=ak x) (by simp[hx,nH])
     rw[List.length_map]at f1
     simp only[Value.slice.injEq]at f1
     obtain⟨rfl,-,rfl⟩:=f1
     have kD:=(k3.get _ (by omega:b<H2.next)).trans ((k2.get _ hb).trans hget)
     have hlt:((l.length-1:Nat):Int)<(l.length:Int):=by omega
     have qlm:l.length-1<l.length:=by omega
     simp only[Option.isSome_some,IR]
     simp -implicitDefEqProofs [aU,g3,kD,hrow,hlt,qlm,hna,gK,bH]
     exact hK _ ((((kX.trans k1).trans k2).trans k3).set (Nat.le_refl _) _)
   ·simp only[if_pos hw0]at hK
    simp -implicitDefEqProofs [hw0,g2]
    exact hK _ (((kX.trans k1).trans k2).set (Nat.le_refl _) _)
 ·have g1:=(k1.get _ (by omega:H.next<X.next)).trans gX
  rw[e1]at hK
  simp -implicitDefEqProofs [g1]
  exact hK _ ((kX.trans k1).set (Nat.le_refl _) _)
end
end
section
section
variable {P:Program} {C:bu} {d:Option Nat} {os st:List aF} {ds:List (aF×List aF)} {K:Env→aa→Prop} {T:Env} {H:aa}
def Xw (P:Program)(C:bu)(Tp:List (TypeId×FuncId))(x:Value)(args:List Value)(d:Option Nat)(os:List aF)(K:Env→aa→Prop)(T:Env)(H:aa):Prop:=match x with
 | .iface t v=>match Tp.find? fun p=>p.1 == t with
   |some p=>Ho P C p.2 (v::args) d os K T H
   |none=>False
 |_=>False
theorem VK {Tp:List (TypeId×FuncId)}{x:Operand}{args:List Operand}:runK P C .ca d (.invoke Tp x args) os K T H=Xw P C Tp (ev T x) (args.map (ev T)) d os K T H:=by
 unfold runK Xw;simp only[jM];generalize ev T x=y;split <;> first|rfl|(split <;> simp_all [Ho])
def dV (P:Program)(C:bu)(Tp:List (TypeId×FuncId))(x:Value)(args:List Value)(d:Option Nat)(st:List aF)(ds:List (aF×List aF))(K:Env→aa→Prop)(T:Env)(H:aa):Prop:=match x with
 | .iface t v=>match Tp.find? fun p=>p.1 == t with
   |some p=>vg P C p.2 (v::args) d st ds K T H
   |none=>False
 |_=>False
theorem QB {Tp:List (TypeId×FuncId)}{x:Operand}{args:List Operand}:dK P C .ca d (.invoke Tp x args) st ds K T H=dV P C Tp (ev T x) (args.map (ev T)) d st ds K T H:=by
 unfold dK dV;simp only[jM];generalize ev T x=y;split <;> first|rfl|(split <;> simp_all [vg])
theorem qdr {t:TypeId}{f:FuncId}{l:List (TypeId×FuncId)}{v:Value}{args:List Value}:Xw P C ((t,f)::l) (.iface t v) args d os K T H=Ho P C f (v::args) d os K T H:=by simp[Xw]
theorem qds {t t':TypeId}{f g:FuncId}{l:List (TypeId×FuncId)}{v:Value}{args:List Value}(h: ¬ t'=t):Xw P C ((t',g)::(t,f)::l) (.iface t v) args d os K T H=Ho P C f (v::args) d os K T H:=by simp[Xw,List.find?,show(t' == t)=false by simpa using h]
theorem qa3 {t:TypeId}{f:FuncId}{l:List (TypeId×FuncId)}{v:Value}{args:List Value}:dV P C ((t,f)::l) (.iface t v) args d st ds K T H=vg P C f (v::args) d st ds K T H:=by simp[dV]
theorem qa4 {t t':TypeId}{f g:FuncId}{l:List (TypeId×FuncId)}{v:Value}{args:List Value}(h: ¬ t'=t):dV P C ((t',g)::(t,f)::l) (.iface t v) args d st ds K T H=vg P C f (v::args) d st ds K T H:=by simp[dV,List.find?,show(t' == t)=false by simpa using h]
end
def Ag (T:aQ):Nat→Nat→Nat
 |0,_=>0
 |k+1,i=>if (T.l i).isNone then i else Ag T k (i+1)
def su (T:aQ):Nat:=Ag T 254 2
theorem SH {T:aQ}: ∀(k i:Nat),Ag T k i≠0→i≤Ag T k i∧Ag T k i<i+k∧T.l (Ag T k i)=none
 |0,i,h=>absurd rfl h
 |k+1,i,h=>by
  unfold Ag at h ⊢
  by_cases hn:(T.l i).isNone
  ·rw[if_pos hn];exact⟨by omega,by omega,by simpa using hn⟩
  ·rw[if_neg hn]at h ⊢
   have:=SH k (i+1) h
   exact⟨by omega,by omega,this.2.2⟩
theorem SI {T:aQ}(h:su T≠0):2≤su T∧su T<256∧T.l (su T)=none:=by
 have:=SH 254 2 h
 exact⟨this.1,by have:=this.2.1;unfold su;omega,this.2.2⟩
def mo (T:aQ)(s:List UInt8):Option Nat×Int:=if ¬ (aR T s).2=0 then (none,(aR T s).2)else if (dS T (aR T s).1).isSome then (some (aR T s).1,0)else (none,12)
def OH (a:Nat→Nat):Option Nat→Value
 |none=>.pointer none
 |some n=>.pointer (some ⟨a n,0,none⟩)
theorem pM {T:aQ}(hT:T.ok)(s:List UInt8):(aR T s).1<256:=by
 unfold aR
 split
 ·simp
 ·exact MC hT _ _ (by omega)
section
variable (c:Ctx) (hc:dP c) (hP:dD c) (hD:bI c) (hX:jP c) (hN:kE c) (hTy:c.Ty 14≠c.Ty 13) {H:aa} {K:Value→aa→Prop} {w:nu} {a:Nat→Nat} {p:Nat} {T:aQ}
include hc in
theorem qa5 (h:gu (c.Ty 14) (c.Ty 13) w a H p T)(hK:K (.int .i64 (su T)) H):c.C (c.F Gl) [.pointer (some ⟨p,0,none⟩)] H K:=by
 refine c.enter hc.Ma rfl ?_
 have hg:=h.get
 simp -implicitDefEqProofs [oo]
 refine cz c.mono (fun k E H'=> ∃(i:Nat),2≤i∧i≤256∧k=256-i∧E 0 = .pointer (some ⟨p,0,none⟩)∧E 3 = .int .i64 i∧H'=H∧su T=Ag T (256-i) i) 254 ?_ ?_
 ·exact⟨2,by omega,by omega,rfl,by simp -implicitDefEqProofs [],by simp -implicitDefEqProofs [],rfl,rfl⟩
 ·rintro k E H' ⟨i,h2,hi,rfl,e0,e3,rfl,hf⟩
  by_cases hil:i<256
  ·have fO:(i:Int)<256:=by omega
   have hw:IntKind.i64.wrap ((i:Int)+1)=(i:Int)+1:=wrap64 (by omega) (by omega)
   have hc1:=oO (F:=c.Ty 14) (D:=c.Ty 13) (a:=a) (T:=T) hil
   unfold dH at hc1
   obtain⟨m,hm⟩: ∃m,256-i=m+1:=⟨255-i,by omega⟩
   rw[hm,Ag]at hf
   cases hx:T.l i with
   |none=>
    rw[hx]at hc1 hf
    simp only[Option.elim_none]at hc1
    simp only[Option.isNone_none,if_true]at hf
    simp -implicitDefEqProofs [e0,e3,hg,hil,fO,hc1,aU]
    rw[hf]at hK;exact hK
   |some x=>
    obtain⟨g,d⟩:=x
    rw[hx]at hc1 hf
    simp only[Option.elim_some]at hc1
    simp only[Option.isNone_some,Bool.false_eq_true,if_false]at hf
    cases d with
    |file s k=>
     simp only[Dp]at hc1
     simp -implicitDefEqProofs [e0,e3,hg,hil,fO,hc1,aU,hw]
     exact⟨256-(i+1),by omega,i+1,by omega,by omega,rfl,by simp,by rw[hf,show 256-(i+1)=m by omega]⟩
    |dir L=>
     simp only[Dp]at hc1
     simp -implicitDefEqProofs [e0,e3,hg,hil,fO,hc1,aU,hw]
     exact⟨256-(i+1),by omega,i+1,by omega,by omega,rfl,by simp,by rw[hf,show 256-(i+1)=m by omega]⟩
  ·have fO: ¬ (i:Int)<256:=by omega
   have:256-i=0:=by omega
   rw[this,Ag]at hf
   simp -implicitDefEqProofs [e0,e3,hil,fO]
   rw[hf]at hK;exact hK
include hc hP hD hX hN hTy in
theorem ME {s:List UInt8}(h:gu (c.Ty 14) (c.Ty 13) w a H p T)(hT:T.ok)(hs:s.length≤1000000)(hK: ∀H',H.le H'→K (.tuple #[OH a (mo T s).1,.int .i64 (mo T s).2]) H'):
 c.C (c.F Gf) [.pointer (some ⟨p,0,none⟩),ak s] H K:=by
 refine c.enter hc.LY rfl ?_
 unfold mo at hK
 simp -implicitDefEqProofs [oh]
 refine ai (rE c hc hP hD hX hN hTy h hT hs fun H1 k1=> ?_)
 by_cases h0:(aR T s).2=0
 ·have h0': ¬ ¬ (aR T s).2=0:=fun e=>e h0
  simp only[if_neg h0']at hK
  simp -implicitDefEqProofs [h0]
  refine ai (xV c hc hTy (h.le k1) (pM hT s) ?_)
  cases hf:dS T (aR T s).1 with
  |none=>
   simp only[hf,Option.isSome_none,Bool.false_eq_true,if_false]at hK
   simp only[Option.isSome_none,IR]
   simp -implicitDefEqProofs [aU]
   exact hK _ k1
  |some x=>
   simp only[hf,Option.isSome_some,if_true]at hK
   simp only[Option.isSome_some,IR]
   simp -implicitDefEqProofs [aU]
   exact hK _ k1
 ·simp only[if_pos h0]at hK
  simp -implicitDefEqProofs [h0]
  exact hK _ k1
end
end
section
def VL (s:List UInt8)(o n:Int):List UInt8×Int:=if o<0∨n<0 then ([],1)else ((s.drop o.toNat).take n.toNat,0)
def qa6 (T:aQ)(s:List UInt8)(o n:Int):List UInt8×Int:=match (mo T s).1 with
 |none=>([],(mo T s).2)
 |some m=>match dS T m with
  |none=>([],0)
  |some x=>VL x.1 o n
theorem Cu {T:aQ}{s:List UInt8}:(mo T s).1=none→¬ (mo T s).2=0:=by
 unfold mo
 split
 ·intro _ h;contradiction
 ·split
  ·intro h;cases h
  ·intro _ h;cases h
theorem Cv {T:aQ}{s:List UInt8}{n:Nat}:(mo T s).1=some n→(mo T s).2=0∧n=(aR T s).1∧∃x,dS T n=some x:=by
 unfold mo
 split
 ·intro h;cases h
 ·split
  ·intro h;injection h with h;rename_i h1;exact⟨rfl,h.symm,by rw[←h];exact Option.isSome_iff_exists.1 h1⟩
  ·intro h;cases h
theorem gu.file {F D:TypeId}{w:nu}{a:Nat→Nat}{H:aa}{p n:Nat}{T:aQ}{x:List UInt8×Int}(h:gu F D w a H p T)(hd:dS T n=some x):a n<H.next∧w (a n)=n+2∧H.get (a n)=some (.cells [ak x.1,.int .i64 x.2] false):=by
 unfold dS at hd
 split at hd
 ·rename_i g s k hx
  injection hd with hd;subst hd
  exact h.node n _ hx
 ·cases hd
section
variable (c:Ctx) (hc:dP c) (hP:dD c) (hD:bI c) (hX:jP c) (hN:kE c) (hTy:c.Ty 14≠c.Ty 13) {H:aa} {K:Value→aa→Prop} {w:nu} {a:Nat→Nat} {p:Nat} {T:aQ}
include hc in
theorem Xx {x:Nat}{s:List UInt8}{k o n:Int}(hg:H.get x=some (.cells [ak s,.int .i64 k] false))(hs:s.length≤1000000)(hK:K (.tuple #[ak (VL s o n).1,.int .i64 (VL s o n).2]) H):
 c.C (c.F Gh) [.pointer (some ⟨x,0,none⟩),.int .i64 o,.int .i64 n] H K:=by
 refine c.enter hc.L6 rfl ?_
 unfold VL at hK
 by_cases ho:o<0
 ·rw[if_pos (.inl ho)]at hK
  simp -implicitDefEqProofs [ja,ho]
  exact hK
 ·by_cases hn:n<0
  ·rw[if_pos (.inr hn)]at hK
   simp -implicitDefEqProofs [ja,ho,hn]
   exact hK
  ·rw[if_neg (by omega)]at hK
   obtain⟨o,rfl⟩:=Int.eq_ofNat_of_zero_le (by omega:0≤o)
   obtain⟨n,rfl⟩:=Int.eq_ofNat_of_zero_le (by omega:0≤n)
   obtain⟨u,hu⟩: ∃u,u=min o s.length:=⟨_,rfl⟩
   obtain⟨m,hm⟩: ∃m,m=min n (s.length-u):=⟨_,rfl⟩
   have m1:(if s.length<o then (s.length:Int)else (o:Int))=(u:Int):=by split <;> omega
   have m2:(if s.length-u<n then ((s.length-u:Nat):Int)else (n:Int))=(m:Int):=by split <;> omega
   have b1:u≤s.length:=by omega
   have b2:m≤s.length-u:=by omega
   have p1:(0:Int)≤(u:Int):=by omega
   have p2:(0:Int)≤(m:Int):=by omega
   have t1:List.take (s.length-u) (List.drop u s)=List.drop u s:=List.take_of_length_le (by simp)
   have t2:List.take m (List.drop u s)=List.take n (List.drop o s):=by
    apply List.ext_getElem?
    intro i
    rw[List.getElem?_take,List.getElem?_take,List.getElem?_drop,List.getElem?_drop]
    by_cases h1:o≤s.length
    ·have:u=o:=by omega
     subst this
     by_cases h2:i<m
     ·rw[if_pos h2,if_pos (by omega)]
     ·rw[if_neg h2]
      by_cases h3:i<n
      ·rw[if_pos h3,List.getElem?_eq_none (by omega)]
      ·rw[if_neg h3]
    ·rw[if_neg (by omega)]
     by_cases h3:i<n
     ·rw[if_pos h3,List.getElem?_eq_none (by omega)]
     ·rw[if_neg h3]
   simp only[Int.toNat_natCast]at hK
   simp -implicitDefEqProofs [ja,ho,hn,hg,ak,m1,m2,gK,bH,b1,p1,b2,p2,t1,t2]
   exact hK
include hc hP hD hX hN hTy in
theorem qa7 {s:List UInt8}{o n:Int}(h:gu (c.Ty 14) (c.Ty 13) w a H p T)(hT:T.ok)(hs:s.length≤1000000)(hK: ∀H',H.le H'→K (.tuple #[ak (qa6 T s o n).1,.int .i64 (qa6 T s o n).2]) H'):
 c.C (c.F Gb) [.pointer (some ⟨p,0,none⟩),ak s,.int .i64 o,.int .i64 n] H K:=by
 refine c.enter hc.LV rfl ?_
 unfold qa6 at hK
 simp -implicitDefEqProofs [nW]
 refine ai (ME c hc hP hD hX hN hTy h hT hs fun H1 k1=> ?_)
 cases hm:(mo T s).1 with
 |none=>
  have h0:=Cu hm
  simp only[hm]at hK
  simp -implicitDefEqProofs [h0]
  exact hK _ k1
 |some m=>
  obtain⟨h0,_,x,hx⟩:=Cv hm
  simp only[hm,hx]at hK
  have hg:=((h.le k1).file hx).2.2
  simp -implicitDefEqProofs [h0,OH]
  refine ai (Xx c hc hg (by have:=(hT.file m x.1 x.2 hx).1;omega) ?_)
  simp -implicitDefEqProofs []
  exact hK _ k1
def MF (T:aQ)(s:List UInt8):List (List UInt8)×Int:=if ¬ (aR T s).2=0 then ([],(aR T s).2)else match aS T (aR T s).1 with
 |none=>([],13)
 |some L=>(L.map (·.nm),0)
include hc hP hD hX hN hTy in
theorem qa8 {s:List UInt8}(h:gu (c.Ty 14) (c.Ty 13) w a H p T)(hT:T.ok)(hs:s.length≤1000000)(hK: ∀v H',H.le H'→Fs H' 1 v ((MF T s).1.map nH)→K (.tuple #[v,.int .i64 (MF T s).2]) H'):
 c.C (c.F Gj) [.pointer (some ⟨p,0,none⟩),ak s] H K:=by
 refine c.enter hc.L9 rfl ?_
 have hnil: ∀H':aa,Fs H' 1 (.slice none 0 0) (([]:List (List UInt8)).map nH):=fun H'=>(Grow.nil H' 0 1).Qp
 unfold MF at hK
 simp -implicitDefEqProofs [om]
 refine ai (rE c hc hP hD hX hN hTy h hT hs fun H1 k1=> ?_)
 by_cases h0:(aR T s).2=0
 ·have h0': ¬ ¬ (aR T s).2=0:=fun e=>e h0
  simp only[if_neg h0']at hK
  simp -implicitDefEqProofs [h0]
  refine ai (si c hc hTy (h.le k1) (pM hT s) fun H2 k2=> ?_)
  cases hd:aS T (aR T s).1 with
  |none=>
   simp only[hd]at hK
   simp only[Option.isSome_none,IR]
   simp -implicitDefEqProofs [aU]
   exact hK _ _ (k1.trans k2) (hnil _)
  |some L=>
   simp only[hd]at hK
   simp only[Option.isSome_some,IR]
   simp -implicitDefEqProofs [aU]
   have hL:=(hT.dir _ L hd).1
   refine ai (UM c hD ((h.le (k1.trans k2)).dir hd) (by omega) fun v H3 k3 g3=> ?_)
   simp -implicitDefEqProofs []
   refine hK _ _ ((k1.trans k2).trans k3) ?_
   rw[List.map_map];exact g3.Qp
 ·simp only[if_pos h0]at hK
  simp -implicitDefEqProofs [h0]
  exact hK _ _ k1 (hnil _)
include hc in
theorem OI {x:Value}(hx: ∃q,x = .agg #[.pointer (some ⟨q,0,none⟩)])(hK: ∀H',H.le H'→K (.int .i64 2) H'):c.C (c.F Cj) [x] H K:=by
 refine c.enter hc.Gv rfl ?_
 obtain⟨q,rfl⟩:=hx
 simp -implicitDefEqProofs [lX]
 exact hK _ (H.ax _)
include hc hD in
theorem Xy {n:Nat}{L:List aP}(h:gu (c.Ty 14) (c.Ty 13) w a H p T)(hd:aS T n=some L)(hK: ∀H',H.le H'→K (.int .i64 (L.length:Nat)) H'):c.C (c.F Ck) [.agg #[.pointer (some ⟨a n,0,none⟩)]] H K:=by
 refine c.enter hc.Gw rfl ?_
 have hle:=H.ax (.cells [.pointer (some ⟨a n,0,none⟩)] false)
 simp -implicitDefEqProofs [lY]
 refine ai (qdp c hD ((h.le hle).dir hd) ?_)
 simp -implicitDefEqProofs []
 exact hK _ hle
include hc in
theorem OJ {x:Value}(hK:K (.int .i64 1) H):c.C (c.F Gn) [x] H K:=by
 refine c.enter hc.Md rfl ?_
 simp -implicitDefEqProofs [ou]
 exact hK
include hc in
theorem Xz {x:Nat}{s:List UInt8}{k:Int}(hg:H.get x=some (.cells [ak s,.int .i64 k] false))(hK:K (.int .i64 (s.length:Nat)) H):c.C (c.F Gp) [.pointer (some ⟨x,0,none⟩)] H K:=by
 refine c.enter hc.Me rfl ?_
 simp -implicitDefEqProofs [ow,hg,ak]
 exact hK
include hc in
theorem XA {x:Nat}{s:List UInt8}{k:Int}(hg:H.get x=some (.cells [ak s,.int .i64 k] false))(hK:K (ak s) H):c.C (c.F Gq) [.pointer (some ⟨x,0,none⟩)] H K:=by
 refine c.enter hc.Mf rfl ?_
 simp -implicitDefEqProofs [oz,hg]
 exact hK
end
end
section
theorem jq {T:aQ}{n:Nat}{L:List aP}(h:aS T n=some L): ∃g,T.l n=some (g,.dir L):=by
 unfold aS at h
 split at h
 ·rename_i g L' hx;injection h with h;subst h;exact⟨g,hx⟩
 ·cases h
theorem sD {T:aQ}{n:Nat}{x:List UInt8×Int}(h:dS T n=some x): ∃g,T.l n=some (g,.file x.1 x.2):=by
 unfold dS at h
 split at h
 ·rename_i g s k hx;injection h with h;subst h;exact⟨g,hx⟩
 ·cases h
theorem MG {T:aQ}(hT:T.ok): ∀(l:List (List UInt8)) (n:Nat),(∃x,T.l n=some x)→(eO T l n).2=0→∃x,T.l (eO T l n).1=some x
 |[],n,h,_=>h
 |s::l,n,h,h0=>by
  simp only[eO]at h0 ⊢
  cases hd:aS T n with
  |none=>simp[hd]at h0
  |some L=>
   simp only[hd]at h0 ⊢
   by_cases h1:(bF L s).2=0
   ·rw[if_pos h1]at h0 ⊢
    refine MG hT l _ ?_ h0
    unfold bF at h1 ⊢
    by_cases ht:iE L s=true
    ·rw[if_pos ht]
     obtain⟨ino,hi⟩:=xS ht
     obtain⟨x,hx⟩:=hT.here n L hd _ (List.mem_of_getElem? hi)
     simp only[NI,hi]
     exact⟨x,hx⟩
    ·rw[if_neg ht]at h1;exact absurd h1 (by decide)
   ·rw[if_neg h1]at h0;exact absurd h0 h1
theorem UO {T:aQ}(hT:T.ok){s:List UInt8}(h:(aR T s).2=0): ∃x,T.l (aR T s).1=some x:=by
 unfold aR at h ⊢
 split at h
 ·cases h
 ·obtain⟨L,hL⟩:=hT.root
  obtain⟨g,hg⟩:=jq hL
  exact MG hT _ _ ⟨_,hg⟩ h
def qa9 (n:Nat):Int×oN→List Int
 |(g,.file s k)=>[n,g,1,(s.length:Nat),k]
 |(g,.dir L)=>[n,g,2,(L.length:Nat),1]
def EQ (T:aQ)(s:List UInt8):List Int×Int:=if ¬ (aR T s).2=0 then ([0,0,0,0,0],(aR T s).2)else match T.l (aR T s).1 with
 |none=>([0,0,0,0,0],0)
 |some x=>(qa9 (aR T s).1 x,0)
section
variable (c:Ctx) (hc:dP c) (hP:dD c) (hD:bI c) (hX:jP c) (hN:kE c) (hTy:c.Ty 14≠c.Ty 13) {H:aa} {K:Value→aa→Prop} {w:nu} {a:Nat→Nat} {p:Nat} {T:aQ}
include hc hP hD hX hN hTy in
theorem qba {s:List UInt8}(h:gu (c.Ty 14) (c.Ty 13) w a H p T)(hT:T.ok)(hs:s.length≤1000000)(hK: ∀H',H.le H'→K (.tuple #[.agg ((EQ T s).1.map (Value.int .i64)).toArray,.int .i64 (EQ T s).2]) H'):
 c.C (c.F Gi) [.pointer (some ⟨p,0,none⟩),ak s] H K:=by
 refine c.enter hc.L8 rfl ?_
 have QA: ¬ c.Ty 13=c.Ty 14:=fun e=>hTy e.symm
 unfold EQ at hK
 obtain⟨X,hX0⟩: ∃X:aa,X=H.alloc (.cells [.int .i64 0,.int .i64 0,.int .i64 0,.int .i64 0,.int .i64 0] false):=⟨_,rfl⟩
 have gX:X.get H.next=some (.cells [.int .i64 0,.int .i64 0,.int .i64 0,.int .i64 0,.int .i64 0] false):=by rw[hX0];simp[YV]
 have nX:X.next=H.next+1:=by rw[hX0];rfl
 have kX:H.le X:=by rw[hX0];exact H.ax _
 simp -implicitDefEqProofs [ol,←hX0]
 refine ai (rE c hc hP hD hX hN hTy (h.le kX) hT hs fun H1 k1=> ?_)
 have g1:=(k1.get _ (by omega:H.next<X.next)).trans gX
 have n1:=k1.next
 by_cases h0:(aR T s).2=0
 ·have h0': ¬ ¬ (aR T s).2=0:=fun e=>e h0
  simp only[if_neg h0']at hK
  have hlt:=pM hT s
  obtain⟨x,hx⟩:=UO hT h0
  generalize (aR T s).1=n at *
  have NM:(n:Int)<256:=by omega
  have h1:=h.le (kX.trans k1)
  have hg:=h1.get
  have hc0:=GG (F:=c.Ty 14) (D:=c.Ty 13) (a:=a) (T:=T) hlt
  have hc1:=oO (F:=c.Ty 14) (D:=c.Ty 13) (a:=a) (T:=T) hlt
  have hcc:List.take 2 (List.drop (n*2) (aN (c.Ty 14) (c.Ty 13) a T))=[ku T n,dH (c.Ty 14) (c.Ty 13) a T n]:=by
   apply List.ext_getElem?
   intro i
   rw[List.getElem?_take]
   match i with
   |0=>rw[if_pos (by omega),List.getElem?_drop,Nat.add_zero,hc0];rfl
   |1=>rw[if_pos (by omega),List.getElem?_drop,hc1];rfl
   |i+2=>rw[if_neg (by omega)];rfl
  have hll:n*2+2≤(aN (c.Ty 14) (c.Ty 13) a T).length:=by rw[aX];omega
  unfold ku dH at hcc
  simp only[hx,Option.elim_some]at hcc hK
  obtain⟨g,d⟩:=x
  cases d with
  |file t k=>
   have hf:dS T n=some (t,k):=by simp[dS,hx]
   simp only[Dp]at hcc
   simp -implicitDefEqProofs [h0,hg,hlt,NM,hcc,hll,QB,qa4 QA]
   refine qR c.mono (OJ c hc ?_)
   simp -implicitDefEqProofs [QB,qa4 QA]
   obtain⟨l1,l2,l3⟩:=h1.file hf
   have e1: ¬ a n=H1.next:=by omega
   have e2: ¬ a n=H1.next+1:=by omega
   refine qR c.mono (Xz c hc (s:=t) (k:=k) (by simp[YV,YW,YX,YY,e1,e2,l3]) ?_)
   simp -implicitDefEqProofs []
   refine ai (xV c hc hTy (h1.le ?_) hlt ?_)
   ·(repeat' first|exact aa.le_refl _|assumption|apply aa.le.alloc|(refine aa.le.set ?_ (by(try simp only[YX,YY]);omega) _)|(refine aa.le.trans ?_ (by assumption)))
   simp only[hf,Option.isSome_some,IR]
   have e3: ¬ H.next=H1.next:=by omega
   have e4: ¬ H.next=H1.next+1:=by omega
   simp -implicitDefEqProofs [aU,e1,e2,l3,e3,e4,g1]
   have kk:=kX.trans k1
   refine hK _ ?_
   (repeat' first|exact aa.le_refl _|assumption|apply aa.le.alloc|(refine aa.le.set ?_ (by(try simp only[YX,YY]);omega) _)|(refine aa.le.trans ?_ (by assumption)))
  |dir L=>
   have hf:aS T n=some L:=by simp[aS,hx]
   have hf2:dS T n=none:=by simp[dS,hx]
   simp only[Dp]at hcc
   simp -implicitDefEqProofs [h0,hg,hlt,NM,hcc,hll,QB,qa3]
   refine qR c.mono (OI c hc ⟨_,rfl⟩ fun H2 k2=> ?_)
   have n2:=k2.next
   simp only[YX,YY]at n2
   have g20:=k2.get H1.next (by simp only[YX,YY];omega)
   have g21:=k2.get (H1.next+1) (by simp only[YX,YY];omega)
   have e5: ¬ H1.next=H1.next+1:=by omega
   have e6: ¬ H1.next+1=H1.next:=by omega
   simp only[YV,YW,YX,YY,e5,e6,if_true,if_false]at g20 g21
   simp -implicitDefEqProofs [g20,g21,QB,qa3]
   refine qR c.mono (Xy c hc hD (h1.le (aa.le.trans ?_ k2)) hf fun H3 k3=> ?_)
   ·(repeat' first|exact aa.le_refl _|assumption|apply aa.le.alloc|(refine aa.le.set ?_ (by(try simp only[YX,YY]);omega) _)|(refine aa.le.trans ?_ (by assumption)))
   have n3:=k3.next
   have g30:=(k3.get H1.next (by omega)).trans g20
   have g31:=(k3.get (H1.next+1) (by omega)).trans g21
   simp -implicitDefEqProofs [g30,g31]
   have k13:H1.le H3:=aa.le.trans (aa.le.trans (by(repeat' first|exact aa.le_refl _|assumption|apply aa.le.alloc|(refine aa.le.set ?_ (by(try simp only[YX,YY]);omega) _)|(refine aa.le.trans ?_ (by assumption)))) k2) k3
   refine ai (xV c hc hTy (h1.le (k13.set (by omega) _)) hlt ?_)
   simp only[hf2,Option.isSome_none,IR]
   have g33:=(k13.get H.next (by omega)).trans g1
   have e3: ¬ H.next=H1.next:=by omega
   have e4: ¬ H.next=H1.next+1:=by omega
   simp -implicitDefEqProofs [aU,g33,g31,e3,e4]
   exact hK _ (((kX.trans k1).trans k13).set (by omega) _ |>.set (Nat.le_refl _) _)
 ·simp only[if_pos h0]at hK
  simp -implicitDefEqProofs [h0,g1]
  exact hK _ ((kX.trans k1).set (Nat.le_refl _) _)
end
end
end
theorem Cw {F D:TypeId}{a:Nat→Nat}{T T':aQ}(h: ∀n,ku T' n=ku T n∧dH F D a T' n=dH F D a T n)(hg:T'.gen=T.gen)(ht:T'.total=T.total):aN F D a T'=aN F D a T:=by
 unfold aN
 apply List.map_congr_left
 intro i _
 unfold mi
 rw[(h _).1,(h _).2,hg,ht]
theorem ER {S S':Nat→Prop}{H:aa}{x:Nat}{L:List aP}(h:Dn S H x L)(hs: ∀b,S' b→S b)(hl: ∀b,S' b→b<H.next):Dn S' H x L:=by
 obtain⟨_,h2,q,hd,h4⟩:=h
 exact⟨hl,fun e=>h2 (hs _ e),q,hd,fun e=>h4 (hs _ e)⟩
theorem nA.lab {w w':nu}{H:aa}{x n:Nat}{d:oN}(h:nA w H x n d)(hw: ∀b,w' b=n+2↔w b=n+2):nA w' H x n d:=by
 cases d with
 |file s k=>exact⟨h.1,(hw _).2 h.2.1,h.2.2⟩
 |dir L=>exact ER h (fun b hb=>⟨hb.1,fun e=>hb.2 ((hw b).2 e)⟩) fun b hb=>hb.1
theorem gu.turn {F D:TypeId}{w:nu}{a:Nat→Nat}{H H':aa}{p n:Nat}{T:aQ}{L L':List aP}{g:Int}(h:gu F D w a H p T)(hd:T.l n=some (g,.dir L))(hk:Ic (fun b=>b<H.next∧w b≠n+2) H H')(hn:Dn (fun b=>b<H.next∧w b≠n+2) H' (a n) L'):
 Mv w (dZ w H.next H'.next (n+2)) H H'∧gu F D (dZ w H.next H'.next (n+2)) a H' p (T.put n (some (g,.dir L'))):=by
 have hlt: ∀b,b<H.next→dZ w H.next H'.next (n+2) b=w b:=fun b hb=>by unfold dZ;rw[if_pos hb]
 refine⟨⟨hk.1,fun b hb h0=>hk.2 b ⟨hb,by omega⟩,fun b hb h0=>by rw[hlt b hb];exact h0⟩,?_⟩
 refine⟨Nat.lt_of_lt_of_le h.lt hk.1,by rw[hlt _ h.lt];exact h.own,?_,?_,?_,?_⟩
 ·have e:aN F D a (T.put n (some (g,.dir L')))=aN F D a T:=by
   refine Cw (fun m=> ?_) rfl rfl
   unfold ku dH aQ.put
   by_cases hm:m=n
   ·subst hm;simp only[if_pos,hd];exact⟨rfl,rfl⟩
   ·simp only[if_neg hm];exact⟨trivial,trivial⟩
  rw[hk.2 p ⟨h.lt,by rw[h.own];omega⟩,h.get,e]
 ·intro m x hx
  by_cases hm:m=n
  ·subst hm
   simp only[aQ.put,if_pos]at hx
   injection hx with hx;subst hx
   refine ER hn (fun b hb=> ?_) fun b hb=>hb.1
   obtain⟨h1,h2⟩:=hb
   unfold dZ at h2
   by_cases hb:b<H.next
   ·rw[if_pos hb]at h2;exact⟨hb,h2⟩
   ·rw[if_neg hb,if_pos h1]at h2;exact absurd rfl h2
  ·simp only[aQ.put,if_neg hm]at hx
   refine(h.node m x hx).keep hk.1 (fun b hb e=>hk.2 b ⟨hb,by omega⟩) hlt fun b hb=> ?_
   unfold dZ
   rw[if_neg (by omega)]
   split <;> omega
 ·intro b hb
  have:=hk.1
  unfold dZ
  rw[if_neg (by omega),if_neg (by omega)]
 ·intro m x hx
  by_cases hm:m=n
  ·subst hm;exact h.far m _ hd
  ·simp only[aQ.put,if_neg hm]at hx;exact h.far m x hx
theorem gu.store {F D:TypeId}{w:nu}{a:Nat→Nat}{H H':aa}{p:Nat}{T T':aQ}(h:gu F D w a H p T)(hn:H'.next=H.next)(hg:H'.get p=some (.cells (aN F D a T') false))
 (ho: ∀n x,T'.l n=some x→nA w H' (a n) n x.2) (hf: ∀n x,T'.l n=some x→1≤n∧n<256):gu F D w a H' p T':=
 ⟨by rw[hn];exact h.lt,h.own,hg,ho,fun b hb=>h.new b (by rw[←hn];exact hb),hf⟩
theorem nA.same {w:nu}{H H':aa}{x n:Nat}{d:oN}(h:nA w H x n d)(hn:H'.next=H.next)(hg: ∀b,w b=n+2→H'.get b=H.get b)(hw: ∀b,H.next≤b→w b=0):nA w H' x n d:=
 h.keep (by rw[hn];exact Nat.le_refl _) (fun b _ e=>hg b e) (fun _ _=>rfl) fun b hb=>by rw[hw b hb];omega
structure qi (w:nu)(H:aa)(lo hi x:Nat)(d:oN):Prop where
 ord:lo≤hi
 top:hi≤H.next
 clean: ∀b,lo≤b→w b=0
 node: ∀n,nA (dZ w lo hi (n+2)) H x n d
theorem qi.le {w:nu}{H H':aa}{lo hi x:Nat}{d:oN}(h:qi w H lo hi x d)(k:H.le H'):qi w H' lo hi x d:=
 ⟨h.ord,Nat.le_trans h.top k.next,h.clean,fun n=>(h.node n).keep k.next (fun b hb _=>k.get b hb) (fun _ _=>rfl) fun b hb=>by
   have:=h.ord;have:=h.top
   unfold dZ;rw[if_neg (by omega),if_neg (by omega)];omega⟩
theorem qi.file {w:nu}{H:aa}{s:List UInt8}{k:Int}(hw: ∀b,H.next≤b→w b=0):qi w (H.alloc (.cells [ak s,.int .i64 k] false)) H.next (H.next+1) H.next (.file s k):=
 ⟨by omega,Nat.le_refl _,hw,fun n=>⟨by rw[YX];omega,by unfold dZ;rw[if_neg (by omega),if_pos (by omega)],by simp[YV]⟩⟩
theorem qi.dir {w:nu}{H H':aa}{x:Nat}{L:List aP}(hw: ∀b,H.next≤b→w b=0)(hk:H.next≤H'.next)(h:Dn (fun b=>b<H.next) H' x L):qi w H' H.next H'.next x (.dir L):=
 ⟨hk,Nat.le_refl _,hw,fun n=>ER h (fun b hb=>Classical.byContradiction fun e=>hb.2 (by unfold dZ;rw[if_neg e,if_pos hb.1])) fun b hb=>hb.1⟩
theorem gu.add {F D:TypeId}{w:nu}{a:Nat→Nat}{H H':aa}{p n lo hi x:Nat}{T:aQ}{d:oN}{g:Int}(h:gu F D w a H p T)(hF:qi w H lo hi x d)(h0:T.l n=none)(hn1:1≤n)(hn2:n<256)(hn:H'.next=H.next)
 (ho: ∀b,b≠p→H'.get b=H.get b)
 (hg:H'.get p=some (.cells (aN F D (fun m=>if m=n then x else a m) {T.put n (some (g,d))with gen:=g}) false)):
 gu F D (dZ w lo hi (n+2)) (fun m=>if m=n then x else a m) H' p {T.put n (some (g,d))with gen:=g}:=by
 have hp:p<lo:=Classical.byContradiction fun e=>by have:=hF.clean p (by omega);rw[h.own]at this;omega
 have hop:dZ w lo hi (n+2) p=1:=by unfold dZ;rw[if_pos hp];exact h.own
 have hcl: ∀b,H.next≤b→dZ w lo hi (n+2) b=0:=fun b hb=>by
  have:=hF.ord;have:=hF.top
  unfold dZ;rw[if_neg (by omega),if_neg (by omega)]
 refine⟨by rw[hn];exact h.lt,hop,hg,?_,fun b hb=>hcl b (by omega),?_⟩
 ·intro m y hy
  by_cases hm:m=n
  ·subst hm
   simp only[aQ.put,if_pos]at hy ⊢
   injection hy with hy;subst hy
   exact(hF.node m).same hn (fun b e=>ho b fun ep=>by rw[ep,hop]at e;omega) hcl
  ·simp only[aQ.put,if_neg hm]at hy ⊢
   have h1:=(h.node m y hy).lab (w':=dZ w lo hi (n+2)) fun b=>by
    unfold dZ
    by_cases hb:b<lo
    ·rw[if_pos hb]
    ·rw[if_neg hb,hF.clean b (by omega)]
     split <;> constructor <;> intro e <;> omega
   exact h1.same hn (fun b e=>ho b fun ep=>by rw[ep,hop]at e;omega) hcl
 ·intro m y hy
  by_cases hm:m=n
  ·subst hm;exact⟨hn1,hn2⟩
  ·simp only[aQ.put,if_neg hm]at hy;exact h.far m y hy
section
attribute [local simp] J0 J1 J2 J3 J4 J5 J6 J7 J8 J9 Ja Jb Jc Jd Je Jf Jg Jh Ji Jj Jk Jl Jm Jn Jo Jp Jq Jr Js Jt Ju Jv Jw Jx Jy Jz JA JB JC JD JE JF JG JH JI JJ JK JL JM JN JO JP JQ JR JS bE bO.kind JT JU JV JW JX JY JZ Y0 Y1 Y2 Y3 Y4 Y5 Y6 Y7 Y8 Y9 Ya Yb Yc Yd Ye Yf Yg Yh Yi Yj Yk Yl Ym Yn Yo Yp Yq j3 Yr Ys Yt Yu Yv Yw Yx Yy gy di dI Yz YA YB YC YD YE fq YF YG YH YI YJ YK YL YM YN YO YP YQ YR YS YT YU sP bS kF qm bZ putAt aa.aj aa.aT aa.aK YV YW YX YY YZ B0 B1 B2 B3 B4 B5 B6 B7 B8 B9 Ba Bb Bc Bd Be Bf Bg Bh Bi Bj Bk Bl Bm Bn Bo Bp
section
theorem jH {cs vs:List Value}{o i:Nat}(h:o+vs.length≤cs.length):(putAt cs o vs)[i]? =if i<o then cs[i]? else if i<o+vs.length then vs[i-o]? else cs[i]? :=by
 unfold putAt
 rw[List.append_assoc,List.getElem?_append,List.length_take,Nat.min_eq_left (by omega)]
 by_cases h1:i<o
 ·rw[if_pos h1,if_pos h1,List.getElem?_take,if_pos h1]
 ·rw[if_neg h1,if_neg h1,List.getElem?_append]
  by_cases h2:i<o+vs.length
  ·rw[if_pos (by omega),if_pos h2]
  ·rw[if_neg (by omega),if_neg h2,List.getElem?_drop];congr 1;omega
theorem xW {F D:TypeId}{a:Nat→Nat}{T:aQ}(t:Int):putAt (aN F D a T) 513 [.int .i64 t]=aN F D a {T with total:=t}:=by
 refine yT (a:=a) (T:=T) (by rw[gM (by rw[aX];simp),aX]) fun i hi=> ?_
 rw[jH (by rw[aX];simp),ny hi]
 by_cases h:i<513
 ·rw[if_pos h];unfold mi ku dH;simp only[]
  by_cases h5:i<512
  ·rw[if_pos h5,if_pos h5]
  ·rw[if_neg h5,if_neg h5,if_pos (by omega),if_pos (by omega)]
 ·have:i=513:=by omega
  subst this
  rw[if_neg h];rfl
def MH (T:aQ)(n:Nat)(t:List UInt8):aQ×Int:=match T.l n with
 |some (g,.file s k)=>if 65536<T.total-(s.length:Nat)+(t.length:Nat)then (T,5)else ({T.put n (some (g,.file t k))with total:=T.total+((t.length:Nat)-(s.length:Nat))},0)
 |_=>(T,0)
section
variable (c:Ctx) (hc:dP c) (hP:dD c) (hD:bI c) (hX:jP c) (hN:kE c) (hTy:c.Ty 14≠c.Ty 13) {H:aa} {K:Value→aa→Prop} {w:nu} {a:Nat→Nat} {p:Nat} {T:aQ}
include hc in
theorem SK {n:Nat}{s t:List UInt8}{k:Int}(h:gu (c.Ty 14) (c.Ty 13) w a H p T)(hT:T.ok)(hx:dS T n=some (s,k))(ht:t.length≤1000000)
 (hK: ∀H',Mv w w H H'→gu (c.Ty 14) (c.Ty 13) w a H' p (MH T n t).1→K (.int .i64 (MH T n t).2) H'):
 c.C (c.F Gg) [.pointer (some ⟨p,0,none⟩),.pointer (some ⟨a n,0,none⟩),ak t] H K:=by
 refine c.enter hc.LZ rfl ?_
 obtain⟨g,hl⟩:=sD hx
 simp only[]at hl
 obtain⟨f1,f2,f3⟩:=h.file hx
 simp only[]at f3
 have hs:=(hT.file n s k hx).1
 have htot:=hT.tot
 have hg:=h.get
 have IU:=yS (F:=c.Ty 14) (D:=c.Ty 13) (a:=a) (T:=T)
 have hlen:=aX (c.Ty 14) (c.Ty 13) a T
 have MI:(aN (c.Ty 14) (c.Ty 13) a T)[513]'(by rw[hlen];omega) = .int .i64 T.total:=by
  have:=IU;rw[List.getElem?_eq_getElem (by rw[hlen];omega)]at this;exact Option.some.inj this
 have hne: ¬ a n=p:=fun e=>by rw[e,h.own]at f2;omega
 have hne': ¬ p=a n:=fun e=>hne e.symm
 have w1:IntKind.i64.wrap (T.total-(s.length:Int))=T.total-(s.length:Int):=wrap64 (by omega) (by omega)
 have w2:IntKind.i64.wrap (T.total-(s.length:Int)+(t.length:Int))=T.total-(s.length:Int)+(t.length:Int):=wrap64 (by omega) (by omega)
 have w3:IntKind.i64.wrap ((t.length:Int)-(s.length:Int))=(t.length:Int)-(s.length:Int):=wrap64 (by omega) (by omega)
 have w4:IntKind.i64.wrap (T.total+((t.length:Int)-(s.length:Int)))=T.total+((t.length:Int)-(s.length:Int)):=wrap64 (by omega) (by omega)
 unfold MH at hK
 simp only[hl]at hK
 by_cases hb:65536<T.total-(s.length:Int)+(t.length:Int)
 ·simp only[if_pos hb]at hK
  simp -implicitDefEqProofs [kr,ak,hg,IU,MI,f3,w1,w2,hb]
  exact hK _ (Mv.refl _ _) h
 ·simp only[if_neg hb]at hK
  have hp:=xW (F:=c.Ty 14) (D:=c.Ty 13) (a:=a) (T:=T) (T.total+((t.length:Int)-(s.length:Int)))
  unfold putAt at hp
  simp only[List.length_cons,List.length_nil]at hp
  simp -implicitDefEqProofs [kr,ak,hg,IU,MI,f3,w1,w2,w3,w4,hb,hlen,hne,hne']
  have hcell:aN (c.Ty 14) (c.Ty 13) a {T.put n (some (g,.file t k))with total:=T.total+((t.length:Int)-(s.length:Int))}=aN (c.Ty 14) (c.Ty 13) a {T with total:=T.total+((t.length:Int)-(s.length:Int))}:=by
   refine Cw (fun m=> ?_) rfl rfl
   unfold ku dH aQ.put
   by_cases hm:m=n
   ·subst hm;simp only[if_pos,hl];exact⟨rfl,rfl⟩
   ·simp only[if_neg hm];exact⟨trivial,trivial⟩
  have hp':List.take 513 (aN (c.Ty 14) (c.Ty 13) a T)++Value.int IntKind.i64 (T.total+((t.length:Int)-(s.length:Int)))::List.drop 514 (aN (c.Ty 14) (c.Ty 13) a T)=aN (c.Ty 14) (c.Ty 13) a {T.put n (some (g,.file t k))with total:=T.total+((t.length:Int)-(s.length:Int))}:=by
   rw[hcell,←hp];simp
  rw[hp']
  refine hK _ ?_ ?_
  ·refine⟨by simp only[YY];exact Nat.le_refl _,fun b hb h0=> ?_,fun b _ h0=>h0⟩
   have e1: ¬ b=a n:=fun e=>by rw[e,f2]at h0;omega
   have e2: ¬ b=p:=fun e=>by rw[e,h.own]at h0;omega
   simp[YW,e1,e2]
  ·refine h.store (by simp only[YY]) (by simp[YW,hne']) (fun m x hx'=> ?_) fun m x hx'=> ?_
   ·by_cases hm:m=n
    ·subst hm
     simp only[aQ.put,if_pos]at hx'
     injection hx' with hx';subst hx'
     exact⟨by simp only[YY];exact f1,f2,by simp[YW,ak]⟩
    ·simp only[aQ.put,if_neg hm]at hx'
     refine(h.node m x hx').same (by simp only[YY]) (fun b e=> ?_) h.new
     have e1: ¬ b=a n:=fun e'=>by rw[e',f2]at e;omega
     have e2: ¬ b=p:=fun e'=>by rw[e',h.own]at e;omega
     simp[YW,e1,e2]
   ·by_cases hm:m=n
    ·subst hm;exact h.far m _ hl
    ·simp only[aQ.put,if_neg hm]at hx';exact h.far m x hx'
end
end
section
theorem xX (b:List UInt8): ∀n,(Lib.repeatL b n).length=n*b.length
 |0=>by simp[Lib.repeatL]
 |n+1=>by simp[Lib.repeatL,xX b n,Nat.succ_mul,Nat.add_comm]
def MJ (T:aQ)(n:Nat)(o:Int)(t:List UInt8):aQ×Int:=if o<0 then (T,1)else if 16384<t.length∨16384-(t.length:Nat)<o then (T,2)else if t=[]then (T,0)else match dS T n with
 |none=>(T,0)
 |some x=>MH T n (Qz x.1 o.toNat t)
def Cx (T:aQ)(s:List UInt8)(o:Int)(t:List UInt8):aQ×Int:=match (mo T s).1 with
 |none=>(T,(mo T s).2)
 |some n=>MJ T n o t
def Cy (T:aQ)(s:List UInt8)(o:Int):aQ×Int:=match (mo T s).1 with
 |none=>(T,(mo T s).2)
 |some n=>if o<0∨16384<o then (T,1)else match dS T n with
  |none=>(T,0)
  |some x=>MH T n (qcS (x.1.take o.toNat) o.toNat)
section
variable (c:Ctx) (hc:dP c) (hP:dD c) (hD:bI c) (hX:jP c) (hN:kE c) (hR:Mx c) (hTy:c.Ty 14≠c.Ty 13) {H:aa} {K:Value→aa→Prop} {w:nu} {a:Nat→Nat} {p:Nat} {T:aQ}
include hc hP in
theorem XB {n:Nat}{s t:List UInt8}{k o:Int}(h:gu (c.Ty 14) (c.Ty 13) w a H p T)(hT:T.ok)(hx:dS T n=some (s,k))(ht:t.length≤1000000)
 (hK: ∀H',Mv w w H H'→gu (c.Ty 14) (c.Ty 13) w a H' p (MJ T n o t).1→K (.int .i64 (MJ T n o t).2) H'):
 c.C (c.F Ey) [.pointer (some ⟨p,0,none⟩),.pointer (some ⟨a n,0,none⟩),.int .i64 o,ak t] H K:=by
 refine c.enter hc.II rfl ?_
 unfold MJ at hK
 have hs:=(hT.file n s k hx).1
 by_cases ho:o<0
 ·simp only[if_pos ho]at hK
  simp -implicitDefEqProofs [eX,ak,ho]
  exact hK _ (Mv.refl _ _) h
 ·simp only[if_neg ho]at hK
  have w1:IntKind.i64.wrap ((16384:Int)-(t.length:Int))=16384-(t.length:Int):=wrap64 (by omega) (by omega)
  by_cases h1:16384<t.length
  ·have X7:(16384:Int)<(t.length:Int):=by omega
   simp only[if_pos (Or.inl h1)]at hK
   simp -implicitDefEqProofs [eX,ak,ho,h1,X7]
   exact hK _ (Mv.refl _ _) h
  ·have X7: ¬ (16384:Int)<(t.length:Int):=by omega
   by_cases h2:16384-(t.length:Int)<o
   ·simp only[if_pos (Or.inr h2)]at hK
    simp -implicitDefEqProofs [eX,ak,ho,h1,X7,w1,h2]
    exact hK _ (Mv.refl _ _) h
   ·simp only[if_neg (show ¬ (16384<t.length∨16384-(t.length:Int)<o)by omega)]at hK
    by_cases h0:t=[]
    ·subst h0
     simp only[if_pos]at hK
     have w0:IntKind.i64.wrap 16384=16384:=wrap64 (by omega) (by omega)
     have h3: ¬ (16384:Int)<o:=by simp only[List.length_nil]at h2;omega
     simp -implicitDefEqProofs [eX,ak,ho,h3,w0,jI]
     exact hK _ (Mv.refl _ _) h
    ·simp only[if_neg h0,hx]at hK
     obtain⟨o,rfl⟩:=Int.eq_ofNat_of_zero_le (by omega:0≤o)
     obtain⟨f1,f2,f3⟩:=h.file hx
     simp only[]at f3
     simp -implicitDefEqProofs [eX,ak,ho,h1,X7,w1,h2,h0,f3,jI]
     refine ai (qeA c hP (s:=s) (t:=t) (n:=o) h0 (by omega) (by omega) (by omega) fun H1 k1=> ?_)
     simp -implicitDefEqProofs []
     refine ai (SK c hc (h.le k1) hT hx (by rw[MB];omega) fun H2 m2 i2=> ?_)
     simp -implicitDefEqProofs []
     exact hK _ ((aa.le.mv k1 w).trans m2) i2
include hc hP hD hX hN hTy in
theorem XC {s t:List UInt8}{o:Int}(h:gu (c.Ty 14) (c.Ty 13) w a H p T)(hT:T.ok)(hs:s.length≤1000000)(ht:t.length≤1000000)
 (hK: ∀H',Mv w w H H'→gu (c.Ty 14) (c.Ty 13) w a H' p (Cx T s o t).1→K (.int .i64 (Cx T s o t).2) H'):
 c.C (c.F Ev) [.pointer (some ⟨p,0,none⟩),ak s,.int .i64 o,ak t] H K:=by
 refine c.enter hc.IC rfl ?_
 unfold Cx at hK
 simp -implicitDefEqProofs [mY]
 refine ai (ME c hc hP hD hX hN hTy h hT hs fun H1 k1=> ?_)
 cases hm:(mo T s).1 with
 |none=>
  have h0:=Cu hm
  simp only[hm]at hK
  simp -implicitDefEqProofs [h0]
  exact hK _ (k1.mv w) (h.le k1)
 |some m=>
  obtain⟨h0,_,x,hx⟩:=Cv hm
  simp only[hm]at hK
  simp -implicitDefEqProofs [h0,OH]
  refine ai (XB c hc hP (h.le k1) hT hx ht fun H2 m2 i2=> ?_)
  simp -implicitDefEqProofs []
  exact hK _ ((k1.mv w).trans m2) i2
include hc hP hD hX hN hTy hR in
theorem XD {s:List UInt8}{o:Int}(h:gu (c.Ty 14) (c.Ty 13) w a H p T)(hT:T.ok)(hs:s.length≤1000000)
 (hK: ∀H',Mv w w H H'→gu (c.Ty 14) (c.Ty 13) w a H' p (Cy T s o).1→K (.int .i64 (Cy T s o).2) H'):
 c.C (c.F Ew) [.pointer (some ⟨p,0,none⟩),ak s,.int .i64 o] H K:=by
 refine c.enter hc.IE rfl ?_
 unfold Cy at hK
 simp -implicitDefEqProofs [mZ]
 refine ai (ME c hc hP hD hX hN hTy h hT hs fun H1 k1=> ?_)
 cases hm:(mo T s).1 with
 |none=>
  have h0:=Cu hm
  simp only[hm]at hK
  simp -implicitDefEqProofs [h0]
  exact hK _ (k1.mv w) (h.le k1)
 |some m=>
  obtain⟨h0,_,x,hx⟩:=Cv hm
  simp only[hm,hx]at hK
  by_cases ho:o<0
  ·simp only[if_pos (Or.inl ho)]at hK
   simp -implicitDefEqProofs [h0,OH,ho]
   exact hK _ (k1.mv w) (h.le k1)
  ·by_cases ho2:16384<o
   ·simp only[if_pos (Or.inr ho2)]at hK
    simp -implicitDefEqProofs [h0,OH,ho,ho2]
    exact hK _ (k1.mv w) (h.le k1)
   ·simp only[if_neg (show ¬ (o<0∨16384<o)by omega)]at hK
    obtain⟨o,rfl⟩:=Int.eq_ofNat_of_zero_le (by omega:0≤o)
    have h1:=h.le k1
    obtain⟨f1,f2,f3⟩:=h1.file hx
    obtain⟨u,hu⟩: ∃u,u=min o x.1.length:=⟨_,rfl⟩
    have m1:(if x.1.length<o then (x.1.length:Int)else (o:Int))=(u:Int):=by split <;> omega
    have p1:(0:Int)≤(u:Int):=by omega
    have b1:u≤x.1.length:=by omega
    have t1:List.take u x.1=List.take o x.1:=by
     apply List.ext_getElem?
     intro i
     rw[List.getElem?_take,List.getElem?_take]
     by_cases h2:i<u
     ·rw[if_pos h2,if_pos (by omega)]
     ·rw[if_neg h2]
      by_cases h3:i<o
      ·rw[if_pos h3,List.getElem?_eq_none (by omega)]
      ·rw[if_neg h3]
    simp only[Int.toNat_natCast]at hK
    simp -implicitDefEqProofs [h0,OH,ho,ho2,f3,ak,gK,bH,m1,p1,b1,t1]
    refine qR c.mono (qez c hP hR (by simp;omega) (by omega) ?_)
    simp -implicitDefEqProofs [ak,f3,m1]
    refine ai (SK c hc h1 hT hx (by unfold qcS;simp[xX];omega) fun H2 m2 i2=> ?_)
    simp -implicitDefEqProofs []
    exact hK _ ((k1.mv w).trans m2) i2
end
end
end
section
theorem MK {F D:TypeId}{a:Nat→Nat}{T:aQ}(t:Int):putAt (aN F D a T) 512 [.int .i64 t]=aN F D a {T with gen:=t}:=by
 refine yT (a:=a) (T:=T) (by rw[gM (by rw[aX];simp),aX]) fun i hi=> ?_
 rw[jH (by rw[aX];simp),ny hi]
 by_cases h:i<512
 ·rw[if_pos h];unfold mi ku dH;simp only[]
  rw[if_pos h,if_pos h]
 ·by_cases h2:i=512
  ·subst h2;rw[if_neg h];rfl
  ·have:i=513:=by omega
   subst this
   rfl
theorem GI {F D:TypeId}{a:Nat→Nat}{T:aQ}{n x:Nat}{g:Int}{d:oN}(hn:n<256):putAt (aN F D a T) (n*2) [.int .i64 g,Dp F D x d]=aN F D (fun m=>if m=n then x else a m) (T.put n (some (g,d))):=by
 refine yT (a:=a) (T:=T) (by rw[gM (by rw[aX];simp;omega),aX]) fun i hi=> ?_
 rw[jH (by rw[aX];simp;omega),ny hi]
 by_cases h:n*2≤i∧i<n*2+2
 ·rw[if_neg (by omega),if_pos (by simp;omega)]
  have hi2:i/2=n:=by omega
  unfold mi ku dH aQ.put
  simp only[hi2,if_true,Option.elim_some]
  rw[if_pos (by omega)]
  by_cases h0:i=n*2
  ·subst h0;rw[if_pos (by omega),Nat.sub_self];rfl
  ·have:i-n*2=1:=by omega
   rw[if_neg (by omega),this];rfl
 ·have e:(if i<n*2 then some (mi F D a T i)else if i<n*2+[Value.int IntKind.i64 g,Dp F D x d].length then [Value.int IntKind.i64 g,Dp F D x d][i-n*2]? else some (mi F D a T i))=some (mi F D a T i):=by
   by_cases h1:i<n*2
   ·rw[if_pos h1]
   ·rw[if_neg h1,if_neg (by simp;omega)]
  rw[e]
  unfold mi ku dH aQ.put
  by_cases h5:i<512
  ·have hne: ¬ i/2=n:=by omega
   rw[if_pos h5,if_pos h5]
   simp only[if_neg hne]
  ·rw[if_neg h5,if_neg h5]
theorem OL {F D:TypeId}{a:Nat→Nat}{T:aQ}{n:Nat}(hn:n<256):putAt (aN F D a T) (n*2) [.int .i64 0,.nilIface]=aN F D a (T.put n none):=by
 refine yT (a:=a) (T:=T) (by rw[gM (by rw[aX];simp;omega),aX]) fun i hi=> ?_
 rw[jH (by rw[aX];simp;omega),ny hi]
 by_cases h:n*2≤i∧i<n*2+2
 ·rw[if_neg (by omega),if_pos (by simp;omega)]
  have hi2:i/2=n:=by omega
  unfold mi ku dH aQ.put
  simp only[hi2,if_true,Option.elim_none]
  rw[if_pos (by omega)]
  by_cases h0:i=n*2
  ·subst h0;rw[if_pos (by omega),Nat.sub_self];rfl
  ·have:i-n*2=1:=by omega
   rw[if_neg (by omega),this];rfl
 ·have e:(if i<n*2 then some (mi F D a T i)else if i<n*2+[Value.int IntKind.i64 0,Value.nilIface].length then [Value.int IntKind.i64 0,Value.nilIface][i-n*2]? else some (mi F D a T i))=some (mi F D a T i):=by
   by_cases h1:i<n*2
   ·rw[if_pos h1]
   ·rw[if_neg h1,if_neg (by simp;omega)]
  rw[e]
  unfold mi ku dH aQ.put
  by_cases h5:i<512
  ·have hne: ¬ i/2=n:=by omega
   rw[if_pos h5,if_pos h5]
   simp only[if_neg hne]
  ·rw[if_neg h5,if_neg h5]
def aQ.lu (T:aQ)(n:Nat)(L:List aP):aQ:=match T.l n with
 |some (g,_)=>T.put n (some (g,.dir L))
 |none=>T
section
variable (c:Ctx) (hD:bI c) (hX:pJ c) (hI:kS c) {H:aa} {K:Value→aa→Prop} {F D:TypeId} {w:nu} {a:Nat→Nat} {p:Nat} {T:aQ}
include hD hX hI in
theorem QC {n:Nat}{s:List UInt8}{ino:Int}{L:List aP}(h:gu F D w a H p T)(hd:aS T n=some L)(hl:L.length≤1000000)(hs:s.length≤1000000)
 (hK: ∀w' H',Mv w w' H H'→gu F D w' a H' p (T.lu n (jc L s ino).1)→K (.int .i64 (jc L s ino).2) H'):c.C (c.F rf) [.pointer (some ⟨a n,0,none⟩),ak s,.int .i64 ino] H K:=by
 obtain⟨g,hg⟩:=jq hd
 refine qhS c hD hX hI (h.dir hd) hl hs fun H' k i=> ?_
 obtain⟨m,t⟩:=h.turn hg k i
 refine hK _ _ m ?_
 unfold aQ.lu
 rw[hg]
 exact t
include hD in
theorem QD {n:Nat}{s:List UInt8}{L:List aP}(h:gu F D w a H p T)(hd:aS T n=some L)(hl:L.length≤1000000)
 (hK: ∀w' H',Mv w w' H H'→gu F D w' a H' p (T.lu n (jb L s).1)→K (.tuple #[.int .i64 (jb L s).2.1,.int .i64 (jb L s).2.2]) H'):c.C (c.F mM) [.pointer (some ⟨a n,0,none⟩),ak s] H K:=by
 obtain⟨g,hg⟩:=jq hd
 refine qaV c hD (h.dir hd) hl fun H' k i=> ?_
 obtain⟨m,t⟩:=h.turn hg k i
 refine hK _ _ m ?_
 unfold aQ.lu
 rw[hg]
 exact t
end
end
theorem Cz {T:aQ}{x:List UInt8}: ∀(l:List (List UInt8)) (n:Nat),eO T (l++[x]) n=if (eO T l n).2=0 then (match aS T (eO T l n).1 with|some L=>if (bF L x).2=0 then ((bF L x).1.toNat,0)else (0,(bF L x).2)|none=>(0,13))else eO T l n
 |[],n=>by
  simp only[List.nil_append,eO,if_pos] <;> cases aS T n <;> rfl
 |s::l,n=>by
  have wn: ∀l',aS T n=none→eO T (s::l') n=(0,13):=fun l' h=>by simp only[eO,h]
  have ws: ∀l' L,aS T n=some L→eO T (s::l') n=if (bF L s).2=0 then eO T l' (bF L s).1.toNat else (0,(bF L s).2):=fun l' L h=>by simp only[eO,h]
  rw[List.cons_append]
  cases hd:aS T n with
  |none=>rw[wn _ hd,wn _ hd];simp
  |some L=>
   rw[ws _ L hd,ws _ L hd]
   by_cases h0:(bF L s).2=0
   ·rw[if_pos h0,if_pos h0];exact Cz l _
   ·rw[if_neg h0,if_neg h0];simp[h0]
theorem qG {T:aQ}{s:List UInt8}(h:(aR T s).2=0)(h1:(aR T s).1≠1): ∃m x L,cK T s=(some (m,x),0)∧aS T m=some L∧(bF L x).2=0∧(bF L x).1.toNat=(aR T s).1:=by
 unfold aR at h h1 ⊢
 unfold cK
 cases hs:kT s with
 |none=>rw[hs]at h;cases h
 |some l=>
  rw[hs]at h h1
  simp only[]at h h1 ⊢
  cases hl:l.getLast? with
  |none=>
   have:l=[]:=by simpa using hl
   subst this
   exact absurd rfl h1
  |some x=>
   simp only[]
   have e:l=l.dropLast++[x]:=by
    obtain⟨ys,rfl⟩:=List.getLast?_eq_some_iff.1 hl
    rw[List.dropLast_concat]
   rw[e,Cz]at h h1
   by_cases h0:(eO T l.dropLast 1).2=0
   ·rw[if_pos h0]at h h1
    rw[if_neg (by simp[h0])]
    cases hd:aS T (eO T l.dropLast 1).1 with
    |none=>rw[hd]at h;cases h
    |some L=>
     rw[hd]at h h1
     simp only[]at h h1 ⊢
     by_cases h2:(bF L x).2=0
     ·refine⟨_,_,L,rfl,hd,h2,?_⟩
      conv=>rhs;rw[e,Cz,if_pos h0,hd]
      simp only[if_pos h2]
     ·rw[if_neg h2]at h;exact absurd h h2
   ·rw[if_neg h0]at h;exact absurd h h0
section
attribute [local simp] J0 J1 J2 J3 J4 J5 J6 J7 J8 J9 Ja Jb Jc Jd Je Jf Jg Jh Ji Jj Jk Jl Jm Jn Jo Jp Jq Jr Js Jt Ju Jv Jw Jx Jy Jz JA JB JC JD JE JF JG JH JI JJ JK JL JM JN JO JP JQ JR JS bE bO.kind JT JU JV JW JX JY JZ Y0 Y1 Y2 Y3 Y4 Y5 Y6 Y7 Y8 Y9 Ya Yb Yc Yd Ye Yf Yg Yh Yi Yj Yk Yl Ym Yn Yo Yp Yq j3 Yr Ys Yt Yu Yv Yw Yx Yy gy di dI Yz YA YB YC YD YE fq YF YG YH YI YJ YK YL YM YN YO YP YQ YR YS YT YU sP bS kF qm bZ putAt aa.aj aa.aT aa.aK YV YW YX YY YZ B0 B1 B2 B3 B4 B5 B6 B7 B8 B9 Ba Bb Bc Bd Be Bf Bg Bh Bi Bj Bk Bl Bm Bn Bo Bp
section
def GJ (T:aQ)(s:List UInt8):aQ×Int:=if ¬ (aR T s).2=0 then (T,(aR T s).2)else match aS T (aR T s).1 with
 |none=>(T,13)
 |some L=>if (aR T s).1=1 then (T,1)else if 0<L.length then (T,14)else match (cK T s).1 with
  |none=>(T,0)
  |some (m,x)=>match aS T m with
   |none=>(T,0)
   |some M=>((T.lu m (jb M x).1).put (aR T s).1 none,0)
theorem gu.drop {F D:TypeId}{w:nu}{a:Nat→Nat}{H H':aa}{p n:Nat}{T:aQ}(h:gu F D w a H p T)(hn:H'.next=H.next)(ho: ∀b,b≠p→H'.get b=H.get b)(hg:H'.get p=some (.cells (aN F D a (T.put n none)) false)):
 Mv w w H H'∧gu F D w a H' p (T.put n none):=by
 refine⟨⟨by rw[hn];exact Nat.le_refl _,fun b hb h0=>ho b fun e=>by rw[e,h.own]at h0;omega,fun _ _ h=>h⟩,?_⟩
 refine h.store hn hg (fun m x hx=> ?_) fun m x hx=> ?_
 ·by_cases hm:m=n
  ·simp[aQ.put,hm]at hx
  ·simp only[aQ.put,if_neg hm]at hx
   exact(h.node m x hx).same hn (fun b e=>ho b fun e'=>by rw[e',h.own]at e;omega) h.new
 ·by_cases hm:m=n
  ·simp[aQ.put,hm]at hx
  ·simp only[aQ.put,if_neg hm]at hx;exact h.far m x hx
section
variable (c:Ctx) (hc:dP c) (hP:dD c) (hD:bI c) (hX:jP c) (hN:kE c) (hTy:c.Ty 14≠c.Ty 13) {H:aa} {K:Value→aa→Prop} {w:nu} {a:Nat→Nat} {p:Nat} {T:aQ}
include hc hP hD hX hN hTy in
theorem XE {s:List UInt8}(h:gu (c.Ty 14) (c.Ty 13) w a H p T)(hT:T.ok)(hs:s.length≤1000000)
 (hK: ∀w' H',Mv w w' H H'→gu (c.Ty 14) (c.Ty 13) w' a H' p (GJ T s).1→K (.int .i64 (GJ T s).2) H'):
 c.C (c.F Eu) [.pointer (some ⟨p,0,none⟩),ak s] H K:=by
 refine c.enter hc.IB rfl ?_
 unfold GJ at hK
 simp -implicitDefEqProofs [mX]
 refine ai (rE c hc hP hD hX hN hTy h hT hs fun H1 k1=> ?_)
 by_cases h0:(aR T s).2=0
 ·have h0': ¬ ¬ (aR T s).2=0:=fun e=>e h0
  simp only[if_neg h0']at hK
  have hlt:=pM hT s
  simp -implicitDefEqProofs [h0]
  refine ai (si c hc hTy (h.le k1) hlt fun H2 k2=> ?_)
  have kk:=k1.trans k2
  cases hd:aS T (aR T s).1 with
  |none=>
   simp only[hd]at hK
   simp only[Option.isSome_none,IR]
   simp -implicitDefEqProofs [aU]
   exact hK _ _ (kk.mv w) (h.le kk)
  |some L=>
   simp only[hd]at hK
   simp only[Option.isSome_some,IR]
   by_cases h1:(aR T s).1=1
   ·have X7:((aR T s).1:Int)=1:=by omega
    simp only[if_pos h1]at hK
    simp -implicitDefEqProofs [aU,h1,X7]
    exact hK _ _ (kk.mv w) (h.le kk)
   ·have X7: ¬ ((aR T s).1:Int)=1:=by omega
    simp only[if_neg h1]at hK
    simp -implicitDefEqProofs [aU,h1,X7]
    refine ai (qdp c hD ((h.le kk).dir hd) ?_)
    by_cases hL:0<L.length
    ·have hLI:(0:Int)<(L.length:Int):=by omega
     simp only[if_pos hL]at hK
     simp -implicitDefEqProofs [hL,hLI]
     exact hK _ _ (kk.mv w) (h.le kk)
    ·have hLI: ¬ (0:Int)<(L.length:Int):=by omega
     have hL0:L=[]:=by cases L with|nil=>rfl|cons _ _=>simp at hL
     simp only[if_neg hL]at hK
     obtain⟨m,x,M,e1,e2,e3,e4⟩:=qG h0 h1
     simp only[e1,e2]at hK
     simp -implicitDefEqProofs [hL,hLI,hL0]
     refine ai (oP c hc hP hD hX hN hTy (h.le kk) hT hs fun H3 k3=> ?_)
     rw[e1]
     simp -implicitDefEqProofs [sj]
     have k4:H.le H3:=kk.trans k3
     refine ai (QD c hD (h.le (aa.le.trans k4 ?_)) e2 (by have:=(hT.dir m M e2).1;omega) fun w' H5 m5 i5=> ?_)
     ·(repeat' first|exact aa.le_refl _|assumption|apply aa.le.alloc|(refine aa.le.set ?_ (by(try simp only[YX,YY]);omega) _)|(refine aa.le.trans ?_ (by assumption)))
     generalize (aR T s).1=n at *
     have NM:(n:Int)<256:=by omega
     have hg:=i5.get
     have hll:n*2+2≤(aN (c.Ty 14) (c.Ty 13) a (T.lu m (jb M x).1)).length:=by rw[aX];omega
     have hp:=OL (F:=c.Ty 14) (D:=c.Ty 13) (a:=a) (T:=T.lu m (jb M x).1) hlt
     unfold putAt at hp
     simp only[List.length_cons,List.length_nil]at hp
     simp -implicitDefEqProofs [hg,NM,hlt,hll]
     have hp':List.take (n*2) (aN (c.Ty 14) (c.Ty 13) a (T.lu m (jb M x).1))++Value.int IntKind.i64 0::Value.nilIface::List.drop (n*2+2) (aN (c.Ty 14) (c.Ty 13) a (T.lu m (jb M x).1))=aN (c.Ty 14) (c.Ty 13) a ((T.lu m (jb M x).1).put n none):=by
      rw[←hp];simp
     rw[hp']
     obtain⟨m6,i6⟩:=i5.drop (n:=n) (H':=H5.set p (.cells (aN (c.Ty 14) (c.Ty 13) a ((T.lu m (jb M x).1).put n none)) false)) (by simp only[YY]) (fun b hb=>by simp[YW,hb]) (by simp[YW])
     refine hK _ _ ((aa.le.mv (aa.le.trans k4 ?_) w).trans (m5.trans m6)) i6
     (repeat' first|exact aa.le_refl _|assumption|apply aa.le.alloc|(refine aa.le.set ?_ (by(try simp only[YX,YY]);omega) _)|(refine aa.le.trans ?_ (by assumption)))
 ·simp only[if_pos h0]at hK
  simp -implicitDefEqProofs [h0]
  exact hK _ _ (k1.mv w) (h.le k1)
end
end
end
end Go.Proofs.YtofpmkhcbijilaaGreatDoorI
