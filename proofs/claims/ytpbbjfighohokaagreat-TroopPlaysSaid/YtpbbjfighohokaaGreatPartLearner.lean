/- Who accepts: plain laws, how it stands in the heap, where a slot is. / Who accepts: the small functions. / Who accepts: a vote is accepted. / PRINTED by gen.py (this session's own): the intermediate form of some functions, and a context's having them. -/
import Derived.Test.YtpbbjfighohokaaGreatInsW
import Derived.Test.YtpbbjfighohokaaGreatProD
import Derived.Test.YtpbbjfighohokaaGreatBalA
namespace Go.Proofs.YtpbbjfighohokaaGreatI
open Go
set_option linter.unusedSimpArgs false
set_option linter.unusedVariables false
section
attribute [local simp] J0 J1 J2 J3 J4 J5 J6 J7 J8 J9 Ja Jb Jc Jd Je Jf Jg Jh Ji Jj Jk Jl Jm Jn Jo Jp Jq Jr Js Jt Ju Jv Jw Jx Jy Jz JA JB JC JD JE JF JG JH JI JJ JK JL JM JN JO JP JQ JR JS aQ bZ.kind JT JU JV JW JX JY JZ Y0 Y1 Y2 Y3 Y4 Y5 Y6 Y7 Y8 Y9 Ya Yb Yc Yd Ye Yf Yg Yh Yi Yj Yk Yl Ym Yn Yo Yp Yq jq Yr Ys Yt Yu Yv Yw Yx Yy dZ bA bE Yz YA YB YC YD YE eO YF YG YH YI YJ YK YL YM YN YO YP YQ YR YS YT YU nP bK jR nG bu putAt aa.ah aa.aP aa.aK YV YW YX YY YZ B0 B1 B2 B3 B4 B5 B6 B7 B8 B9 Ba Bb Bc Bd Be Bf Bg Bh Bi Bj Bk Bl Bm Bn Bo Bp
section
theorem Zb {n:Int}(h:0≤n)(k:n<18446744073709551616):IntKind.u64.wrap n=n:=by
 have e1:(2 ^ IntKind.u64.bits:Int)=18446744073709551616:=by decide
 unfold IntKind.wrap
 simp only[e1,IntKind.signed,Bool.false_and]
 rw[if_neg (by simp)]
 omega
theorem qav (a:Nat):XX .u64 (a:Int) 1=((a/2:Nat):Int):=by
 have e:(2:Int) ^ min (Int.toNat 1) IntKind.u64.bits=2:=by decide
 unfold XX
 rw[e,Int.fdiv_eq_ediv_of_nonneg _ (by omega)]
 omega
theorem uh {cs r:List Value}{p n:Nat}(h:(cs.drop p).take n=r)(j:Nat)(hj:j<n):cs[p+j]? =r[j]? :=by
 rw[←h,List.getElem?_take,if_pos hj,List.getElem?_drop]
def Sorted (L:List ay):Prop:=L.Pairwise fun a b=>a.slot<b.slot
def fI (s:Int):List ay→Nat
 |[]=>0
 |v::L=>if v.slot<s then fI s L+1 else 0
def jE (L:List ay)(s:Int):Bool:=match L[fI s L]? with|some v=>decide (v.slot=s)|none=>false
theorem Kn (s:Int): ∀L:List ay,fI s L≤L.length
 |[]=>Nat.le_refl _
 |v::L=>by
  have:=Kn s L
  simp only[fI,List.length_cons]
  split <;> omega
theorem TB {s:Int}: ∀{L:List ay} {i:Nat} {v:ay},i<fI s L→L[i]? =some v→v.slot<s
 |[],i,v,h,_=>by simp[fI]at h
 |w::L,i,v,h,hv=>by
  simp only[fI]at h
  split at h
  ·cases i with
   |zero=>
    simp only[List.getElem?_cons_zero,Option.some.injEq]at hv
    subst hv;assumption
   |succ i=>exact TB (L:=L) (i:=i) (by omega) hv
  ·omega
theorem OA {s:Int}: ∀{L:List ay},Sorted L→∀{i:Nat} {v:ay},fI s L≤i→L[i]? =some v→s≤v.slot
 |[],_,i,v,_,hv=>by simp at hv
 |w::L,hs,i,v,h,hv=>by
  have hs':=List.pairwise_cons.1 hs
  simp only[fI]at h
  split at h
  ·obtain⟨j,rfl⟩: ∃j,i=j+1:=⟨i-1,by omega⟩
   exact OA (L:=L) hs'.2 (i:=j) (by omega) hv
  ·rename_i hn
   cases i with
   |zero=>
    simp only[List.getElem?_cons_zero,Option.some.injEq]at hv
    subst hv;omega
   |succ i=>
    have:=hs'.1 v (List.mem_of_getElem? hv)
    omega
def fromV (L:List ay)(s:Int):List ay:=L.filter fun v=>decide (s≤v.slot)
theorem DD {s:Int}: ∀{L:List ay},Sorted L→fromV L s=L.drop (fI s L)
 |[],_=>rfl
 |w::L,hs=>by
  have hs':=List.pairwise_cons.1 hs
  have ih:=DD (s:=s) hs'.2
  unfold fromV at ih ⊢
  simp only[fI,List.filter_cons]
  by_cases h:w.slot<s
  ·rw[if_pos h,if_neg (by simp;omega),ih];rfl
  ·rw[if_neg h,if_pos (by simp;omega),List.drop_zero]
   congr 1
   rw[List.filter_eq_self]
   intro v hv
   have:=hs'.1 v hv
   simp;omega
def xG (L:List ay)(v:ay):List ay:=(L.filter fun x=>decide (x.slot<v.slot))++v::(L.filter fun x=>decide (v.slot<x.slot))
theorem Ws {s:Int}: ∀{L:List ay},Sorted L→(L.filter fun x=>decide (x.slot<s))=L.take (fI s L)
 |[],_=>rfl
 |w::L,hs=>by
  have hs':=List.pairwise_cons.1 hs
  have ih:=Ws (s:=s) hs'.2
  simp only[fI,List.filter_cons]
  by_cases h:w.slot<s
  ·rw[if_pos h,if_pos (by simpa using h),ih];rfl
  ·rw[if_neg h,if_neg (by simpa using h),List.take_zero]
   rw[List.filter_eq_nil_iff]
   intro v hv
   have:=hs'.1 v hv
   simp;omega
theorem Z4 {L:List ay}(hs:Sorted L)(s:Int):(L.filter fun x=>decide (s<x.slot))=L.drop (fI s L+if jE L s then 1 else 0):=by
 have h1:(L.filter fun x=>decide (s<x.slot))=fromV L (s+1):=by
  unfold fromV
  congr 1
 rw[h1,DD hs]
 congr 1
 clear h1
 induction L with
 |nil=>rfl
 |cons w L ih=>
  have hs':=List.pairwise_cons.1 hs
  simp only[fI]
  by_cases h:w.slot<s
  ·rw[if_pos h,if_pos (by omega),ih hs'.2]
   have:jE (w::L) s=jE L s:=by simp[jE,fI,h]
   rw[this];omega
  ·rw[if_neg h]
   by_cases he:w.slot=s
   ·have:jE (w::L) s=true:=by simp[jE,fI,h,he]
    rw[if_pos (by omega),this,if_pos rfl]
    have hz:fI (s+1) L=0:=by
     cases L with
     |nil=>rfl
     |cons u L=>
      have:=hs'.1 u (by simp)
      simp only[fI]
      rw[if_neg (by omega)]
    omega
   ·have:jE (w::L) s=false:=by simp[jE,fI,h,he]
    rw[if_neg (by omega),this];simp
theorem Zc {L:List ay}(hs:Sorted L){v:ay}(h:jE L v.slot=true):xG L v=L.set (fI v.slot L) v:=by
 have hp:fI v.slot L<L.length:=by
  unfold jE at h
  cases hq:L[fI v.slot L]? with
  |none=>rw[hq]at h;cases h
  |some w=>exact(List.getElem?_eq_some_iff.1 hq).1
 rw[xG,Ws hs,Z4 hs,h,if_pos rfl,List.set_eq_take_append_cons_drop,if_pos hp]
theorem Wt {L:List ay}(hs:Sorted L){v:ay}(h:jE L v.slot=false):xG L v=L.take (fI v.slot L)++v::L.drop (fI v.slot L):=by
 rw[xG,Ws hs,Z4 hs,h]
 simp
theorem Ir {L:List ay}(hs:Sorted L)(v:ay):Sorted (xG L v):=by
 unfold Sorted xG
 rw[List.pairwise_append]
 refine⟨hs.filter _,List.pairwise_cons.2 ⟨fun x hx=> ?_,hs.filter _⟩,fun x hx y hy=> ?_⟩
 ·simpa using(List.mem_filter.1 hx).2
 ·have h1:x.slot<v.slot:=by simpa using(List.mem_filter.1 hx).2
  rcases List.mem_cons.1 hy with rfl|hy
  ·exact h1
  ·have h2:v.slot<y.slot:=by simpa using(List.mem_filter.1 hy).2
   omega
theorem Wu (L:List ay)(v:ay):(xG L v).length≤L.length+1:=by
 unfold xG
 rw[List.length_append,List.length_cons]
 have: ∀L:List ay,(L.filter fun x=>decide (x.slot<v.slot)).length+(L.filter fun x=>decide (v.slot<x.slot)).length≤L.length:=by
  intro L
  induction L with
  |nil=>simp
  |cons w L ih=>
   simp only[List.filter_cons,List.length_cons]
   by_cases h1:w.slot<v.slot
   ·rw[if_pos (by simpa using h1),if_neg (by simp;omega)]
    simp only[List.length_cons];omega
   ·rw[if_neg (by simpa using h1)]
    split
    ·simp only[List.length_cons];omega
    ·omega
 have:=this L
 omega
structure Acc where
 pa:Int
 pn:Int
 base:Int
 L:List ay
def Acc.may (A:Acc)(a n:Int):Bool:=bJ a n&&decide (0≤lX a n A.pa A.pn)
def Acc.promise (A:Acc)(a n s:Int):Acc×List ay×Bool:=if A.may a n=false∨s<A.base then (A,[],false)else ({A with pa:=a,pn:=n},fromV A.L s,true)
def Acc.accept (A:Acc)(v:ay):Acc×Bool:=
 if A.may v.a v.n=false∨v.slot<A.base∨1024≤v.slot∨(4096:Int)<v.val.data.toList.length then (A,false)else ({A with pa:=v.a,pn:=v.n,L:=xG A.L v},true)
def qaw (a b:Int):Int:=if b<a then b else a
def qb7 (a b:Int):Int:=if b>a then b else a
def Acc.trim (A:Acc)(u:Int):Acc×Int:=({A with base:=qb7 A.base (qaw u 1024),L:=fromV A.L (qaw u 1024)},(fI (qaw u 1024) A.L:Nat))
theorem vN (L:List ay): ∀r ∈ L.map aG,r.length=4:=by
 intro r hr
 obtain⟨v,_,rfl⟩:=List.mem_map.1 hr
 rfl
theorem EZ (L:List ay):(L.map aG).flatten.all cO=true:=by
 rw[List.all_eq_true]
 intro x hx
 obtain⟨r,hr,hx⟩:=List.mem_flatten.1 hx
 obtain⟨v,_,rfl⟩:=List.mem_map.1 hr
 simp only[aG,List.mem_cons,List.not_mem_nil,or_false]at hx
 rcases hx with rfl|rfl|rfl|rfl <;> rfl
structure Iu (H:aa)(p q:Nat)(A:Acc):Prop where
 lt:p<H.next
 ne:p≠q
 rep: ∃u,H.get p=some (.cells [.int .i64 A.pa,.int .i64 A.pn,.int .i64 A.base,u] false)∧VS H q u (A.L.map aG)
 sorted:Sorted A.L
theorem Iu.upd {H H':aa}{S:List Nat}{p q:Nat}{A:Acc}(h:Iu H p q A)(hu:aa.upd S H H')(hp:p ∉ S)(hq:q ∉ S):Iu H' p q A:=by
 obtain⟨u,g1,g2⟩:=h.rep
 exact⟨Nat.lt_of_lt_of_le h.lt hu.next,h.ne,⟨u,(hu.get p h.lt hp).trans g1,g2.upd hu hq⟩,h.sorted⟩
theorem Iu.le {H H':aa}{p q:Nat}{A:Acc}(h:Iu H p q A)(hu:H.le H'):Iu H' p q A:=h.upd (hu.upd []) (by simp) (by simp)
section
variable (c:Ctx) (hc:pW c) {H:aa} {K:Value→aa→Prop}
include hc
theorem Qz {v:ay}{s:Int}(hK: ∀H',H.le H'→K (.int .i64 (if v.slot<s then -1 else if s<v.slot then 1 else 0)) H'):c.C (c.F gm) [vV v,.int .i64 s] H K:=by
 refine c.enter hc.tK rfl ?_
 have kA: ∀y,H.le (H.alloc y):=fun y=>H.aj y
 by_cases h1:v.slot<s
 ·rw[if_pos h1]at hK
  simp -implicitDefEqProofs [di,vV,h1]
  exact hK _ (kA _)
 ·rw[if_neg h1]at hK
  by_cases h2:s<v.slot
  ·rw[if_pos h2]at hK
   simp -implicitDefEqProofs [di,vV,h1,h2]
   exact hK _ (kA _)
  ·rw[if_neg h2]at hK
   simp -implicitDefEqProofs [di,vV,h1,h2]
   exact hK _ (kA _)
theorem Uz {u:Value}{L:List ay}{s:Int}(hu:qJ H 4 u (L.map aG))(hs:Sorted L)(hl:L.length≤1000000)(hK: ∀H',H.le H'→K (.tuple #[.int .i64 (fI s L:Nat),.bool (jE L s)]) H'):
 c.C (c.F iJ) [u,.int .i64 s,.func (.func (c.F gm)) #[] #[]] H K:=by
 refine c.enter hc.jd rfl ?_
 have hu':=hu
 obtain⟨a,cap,rfl,_⟩:=hu
 simp only[List.length_map]at hu' ⊢
 have Sn:=Kn s L
 have kk: ∀{P:Prop},(0:Int)≤1:=by omega
 simp -implicitDefEqProofs [bP]
 refine aS c.mono (fun k T H'=> ∃lo hi:Nat,lo≤hi∧lo≤fI s L∧fI s L≤hi∧hi≤L.length∧k=hi-lo∧T 0 = .slice a L.length cap∧T 1 = .int .i64 s∧T 2 = .func (.func (c.F gm)) #[] #[]∧T 8 = .int .i64 L.length∧T 9 = .int .i64 lo∧T 10 = .int .i64 hi∧H.le H') L.length ?_ ?_
 ·refine⟨0,L.length,by omega,by omega,by omega,by omega,by omega,?_⟩
  simp -implicitDefEqProofs []
  exact aa.le_refl _
 ·rintro k T H' ⟨lo,hi,h1,h2,h3,h4,rfl,t0,t1,t2,t8,t9,t10,hle⟩
  by_cases hlh:lo<hi
  ·have Zd:(lo:Int)<(hi:Int):=by omega
   obtain⟨mid,hmid⟩: ∃mid,mid=(lo+hi)/2:=⟨_,rfl⟩
   have hm1:lo≤mid:=by omega
   have hm2:mid<hi:=by omega
   have hmL:mid<L.length:=by omega
   have hmI:(mid:Int)<(L.length:Int):=by omega
   have w1:IntKind.i64.wrap ((lo:Int)+(hi:Int))=((lo+hi:Nat):Int):=by rw[wrap64 (by omega) (by omega)];omega
   have w2:IntKind.u64.wrap ((lo+hi:Nat):Int)=((lo+hi:Nat):Int):=Zb (by omega) (by omega)
   have w3:XX .u64 ((lo+hi:Nat):Int) 1=(mid:Int):=by rw[qav,hmid]
   have w4:IntKind.i64.wrap (mid:Int)=(mid:Int):=wrap64 (by omega) (by omega)
   have w5:IntKind.i64.wrap ((mid:Int)+1)=(mid:Int)+1:=wrap64 (by omega) (by omega)
   obtain⟨sm,hsm⟩: ∃sm,sm=((lo+hi:Nat):Int):=⟨_,rfl⟩
   rw[←hsm]at w1 w2 w3
   have hx:L[mid]? =some L[mid]:=List.getElem?_eq_getElem hmL
   obtain⟨v,hv⟩: ∃v,v=L[mid]:=⟨_,rfl⟩
   rw[←hv]at hx
   obtain⟨b,o,cp,cs,ro,ea,hb,hget,hrl,hrow,hbd⟩:=hu'.at (i:=mid) (r:=aG v) (by simp[hx])
   rw[List.length_map]at ea
   simp only[Value.slice.injEq]at ea
   obtain⟨rfl,-,rfl⟩:=ea
   simp only[aG]at hrow
   have zA:=(hle.get b hb).trans hget
   simp -implicitDefEqProofs [t0,t1,t2,t8,t9,t10,hlh,Zd,w1,w2,w3,w4,hmL,hmI,zA,hrow,hbd]
   refine av (Qz c hc (v:=v) fun H2 k2=> ?_)
   by_cases hc1:v.slot<s
   ·rw[if_pos hc1]
    have hgt:mid<fI s L:=by
     refine Classical.byContradiction fun hn=> ?_
     have:=OA (s:=s) hs (i:=mid) (by omega) hx
     omega
    simp -implicitDefEqProofs [t0,t1,t2,t8,t9,t10,w5]
    exact⟨hi-(mid+1),by omega,mid+1,hi,by omega,by omega,by omega,by omega,rfl,rfl,by simp,hle.trans k2⟩
   ·rw[if_neg hc1]
    have hge:fI s L≤mid:=by
     refine Classical.byContradiction fun hn=> ?_
     have:=TB (s:=s) (L:=L) (i:=mid) (by omega) hx
     omega
    by_cases hc2:s<v.slot
    ·rw[if_pos hc2]
     simp -implicitDefEqProofs [t0,t1,t2,t8,t9,t10]
     exact⟨mid-lo,by omega,lo,mid,by omega,by omega,by omega,by omega,rfl,rfl,by simp,hle.trans k2⟩
    ·rw[if_neg hc2]
     simp -implicitDefEqProofs [t0,t1,t2,t8,t9,t10]
     exact⟨mid-lo,by omega,lo,mid,by omega,by omega,by omega,by omega,rfl,rfl,by simp,hle.trans k2⟩
  ·have Zd: ¬ (lo:Int)<(hi:Int):=by omega
   have hlp:lo=fI s L:=by omega
   subst hlp
   by_cases hpl:fI s L<L.length
   ·have Ze:(fI s L:Int)<(L.length:Int):=by omega
    have hx:L[fI s L]? =some L[fI s L]:=List.getElem?_eq_getElem hpl
    obtain⟨v,hv⟩: ∃v,v=L[fI s L]:=⟨_,rfl⟩
    rw[←hv]at hx
    have hth:jE L s=decide (v.slot=s):=by simp[jE,hx]
    rw[hth]at hK
    obtain⟨b,o,cp,cs,ro,ea,hb,hget,hrl,hrow,hbd⟩:=hu'.at (i:=fI s L) (r:=aG v) (by simp[hx])
    rw[List.length_map]at ea
    simp only[Value.slice.injEq]at ea
    obtain⟨rfl,-,rfl⟩:=ea
    simp only[aG]at hrow
    have zA:=(hle.get b hb).trans hget
    simp -implicitDefEqProofs [t0,t1,t2,t8,t9,t10,hlh,Zd,hpl,Ze,zA,hrow,hbd]
    refine av (Qz c hc (v:=v) fun H2 k2=> ?_)
    have hge:=OA (s:=s) hs (Nat.le_refl _) hx
    rw[if_neg (by omega)]
    by_cases hc2:s<v.slot
    ·rw[if_pos hc2]
     have hne: ¬ v.slot=s:=by omega
     rw[decide_eq_false hne]at hK
     simp -implicitDefEqProofs []
     exact hK _ (hle.trans k2)
    ·rw[if_neg hc2]
     have hne:v.slot=s:=by omega
     rw[decide_eq_true hne]at hK
     simp -implicitDefEqProofs []
     exact hK _ (hle.trans k2)
   ·have Ze: ¬ (fI s L:Int)<(L.length:Int):=by omega
    have hth:jE L s=false:=by simp[jE,List.getElem?_eq_none (Nat.le_of_not_lt hpl)]
    rw[hth]at hK
    simp -implicitDefEqProofs [t0,t1,t2,t8,t9,t10,hlh,Zd,hpl,Ze]
    exact hK _ hle
theorem find_ok {p q:Nat}{A:Acc}{s:Int}(h:Iu H p q A)(hl:A.L.length≤1000000)(hK: ∀H',H.le H'→K (.tuple #[.int .i64 (fI s A.L:Nat),.bool (jE A.L s)]) H'):c.C (c.F uH) [.pointer (some ⟨p,0,none⟩),.int .i64 s] H K:=by
 refine c.enter hc.xD rfl ?_
 obtain⟨u,g1,g2⟩:=h.rep
 simp -implicitDefEqProofs [iU,g1]
 refine av (Uz c hc (g2.Rx (vN _)).1 h.sorted hl fun H' hl=> ?_)
 simp -implicitDefEqProofs []
 exact hK _ hl
end
end
section
def uj (n:Nat)(v:Value):Prop:=∀b o m c,v = .slice (some ⟨b,o,none⟩) m c→n≤b
theorem uj.nil (n:Nat):uj n (.slice none 0 0):=fun b o m c e=>by simp at e
theorem uj.weak {n m:Nat}{v:Value}(h:uj m v)(hn:n≤m):uj n v:=fun b o x c e=>Nat.le_trans hn (h b o x c e)
section
variable (c:Ctx) (hc:pW c) (hB:iG c) {H:aa} {K:Value→aa→Prop}
include hc in
theorem UA {rows:List (List Value)}{u:Value}(hs:qZ H 4 u rows)(h4: ∀r ∈ rows,r.length=4)(hone:rows.flatten.all cO=true)(hl:rows.length≤1000000)
 (hK: ∀v' H',H.le H'→qZ H' 4 v' rows→uj H.next v'→K v' H'):c.C (c.F nW) [u] H K:=by
 refine c.enter hc.pX rfl ?_
 have hs2:=hs
 obtain⟨a,cap,rfl⟩:=hs.len
 have hf:=hs2.first (by omega)
 cases a with
 |none=>
  have hl0:rows=[]:=by
   obtain⟨⟨a',cap',e,h2⟩,_⟩:=hs2
   refine Classical.byContradiction fun hne=> ?_
   obtain⟨b,o,cs,ro,e2,_⟩:=h2 hne
   rw[e2]at e;simp at e
  subst hl0
  simp -implicitDefEqProofs [bO,aT]
  exact hK _ _ (aa.le_refl _) (qZ.nil H 4) (uj.nil _)
 |some ad=>
  have hb:ad.spot=none:=by
   obtain⟨_,a'',qbm,e,ha,_⟩:=hs2
   simp only[Value.slice.injEq]at e
   obtain⟨rfl,-,rfl⟩:=e
   rcases ha with h|⟨b,o,h⟩
   ·simp at h
   ·simp only[Option.some.injEq]at h;rw[h]
  obtain⟨b,o,sp⟩:=ad
  simp only at hb
  subst hb
  have kA:=H.aj (.cells [] false)
  have hf2:aZ (H.alloc (.cells [] false)) 4 rows.length (.slice (some ⟨b,o,none⟩) rows.length cap)=some rows.flatten:=(hs2.le kA).first (by omega)
  have tg:Dc (H.alloc (.cells [] false)) 4 (.slice (some ⟨H.next,0,none⟩) 0 0) []:=⟨by simp,H.next,0,[],false,by simp[YX],by unfold dY;simp,rfl,by rw[YV,if_pos rfl],by simp,by simp⟩
  have fr:uj H.next (.slice (some ⟨H.next,0,none⟩) 0 0):=fun b o m c e=>by
   simp only[Value.slice.injEq,Option.some.injEq,Addr.mk.injEq]at e
   omega
  by_cases hl0:rows=[]
  ·subst hl0
   have e0:=xm (bytes:=40) (B:=H.next) (.inr (.inl tg)) (by omega) (by omega) (by simp) (by simp)
   simp only[List.length_nil,List.flatten_nil]at hf2 e0
   simp -implicitDefEqProofs [bO,aT,bG,hf2,e0]
   exact hK _ _ kA tg.Rx fr
  ·obtain⟨v',H',e1,e2,e3⟩:=Buf.append (bytes:=40) (B:=H.next) (new:=rows) (.inr (.inl tg)) (by simp[YX]) (by omega) (by omega) (by simp;omega) (by simp;omega) h4 hone hl0
   rw[List.nil_append]at e2
   have k3:H.le H':=(kA.keep (Nat.le_refl _) |>.trans e3).le (Nat.le_refl _)
   obtain⟨cs,hcs⟩: ∃cs,cs=rows.flatten:=⟨_,rfl⟩
   rw[←hcs]at hf2 e1
   simp -implicitDefEqProofs [bO,aT,bG,hf2,e1]
   refine hK _ _ k3 e2.Rx fun b o m c e=> ?_
   obtain⟨_,blk,q1,q2,rfl,q4⟩:=e2
   simp only[Value.slice.injEq,Option.some.injEq,Addr.mk.injEq]at e
   omega
include hc in
theorem Zf (hK: ∀H',H.le H'→Iu H' H.next (H.next+1) ⟨0,0,0,[]⟩→K (.pointer (some ⟨H.next,0,none⟩)) H'):c.C (c.F zy) [] H K:=by
 refine c.enter hc.Oz rfl ?_
 simp -implicitDefEqProofs [sj]
 exact hK _ (H.aj _) ⟨by simp[YX],by omega,⟨_,by rw[YV,if_pos rfl],.inl ⟨rfl,rfl⟩⟩,List.Pairwise.nil⟩
include hc in
theorem OB {p q:Nat}{A:Acc}(h:Iu H p q A)(hK: ∀H',H.le H'→K (vB A.pa A.pn) H'):c.C (c.F jS) [.pointer (some ⟨p,0,none⟩)] H K:=by
 refine c.enter hc.sD rfl ?_
 obtain⟨u,g1,g2⟩:=h.rep
 have hne: ¬ p=H.next:=by have:=h.lt;omega
 have k:=(H.aj (.cells [.int .i64 0,.int .i64 0] false)).set (i:=H.next) (Nat.le_refl _) (.cells [.int .i64 A.pa,.int .i64 A.pn] false)
 simp -implicitDefEqProofs [fT,aT,g1,hne]
 exact hK _ k
include hc in
theorem Wv {p q:Nat}{A:Acc}(h:Iu H p q A)(hK:K (.int .i64 A.base) H):c.C (c.F mF) [.pointer (some ⟨p,0,none⟩)] H K:=by
 refine c.enter hc.xE rfl ?_
 obtain⟨u,g1,g2⟩:=h.rep
 simp -implicitDefEqProofs [iV,aT,g1]
 exact hK
include hc in
theorem UB {p q:Nat}{A:Acc}{s:Int}(h:Iu H p q A)(hl:A.L.length≤1000000)(hK: ∀v' H',H.le H'→qZ H' 4 v' ((fromV A.L s).map aG)→uj H.next v'→K v' H'):
 c.C (c.F tJ) [.pointer (some ⟨p,0,none⟩),.int .i64 s] H K:=by
 refine c.enter hc.vM rfl ?_
 simp -implicitDefEqProofs [gV,aT]
 refine av (find_ok c hc (s:=s) h hl fun H1 k1=> ?_)
 have h1:=h.le k1
 obtain⟨u,g1,g2⟩:=h1.rep
 have hw:=g2.Rx (vN _)
 obtain⟨a,cap,rfl⟩:=g2.Uy
 rw[List.length_map]at hw g1
 have Sn:=Kn s A.L
 obtain⟨v',hcut,hw2⟩:=hw.cut (i:=fI s A.L) (j:=A.L.length) (by omega) Sn (by simp)
 have hrows:((A.L.map aG).drop (fI s A.L)).take (A.L.length-fI s A.L)=(fromV A.L s).map aG:=by
  rw[DD h.sorted,List.map_drop,List.take_of_length_le (by simp)]
 rw[hrows]at hw2
 simp -implicitDefEqProofs [g1,eU,nL,Sn,hcut]
 have hll:(fromV A.L s).length≤A.L.length:=List.length_filter_le _ _
 refine av (UA c hc hw2 (vN _) (EZ _) (by rw[List.length_map];omega) fun v2 H2 k2 s2 f2=> ?_)
 simp -implicitDefEqProofs []
 exact hK _ _ (k1.trans k2) s2 (f2.weak k1.next)
include hc hB in
theorem TC {p q:Nat}{A:Acc}{a n:Int}(h:Iu H p q A)(hK: ∀H',H.le H'→K (.bool (A.may a n)) H'):c.C (c.F vL) [.pointer (some ⟨p,0,none⟩),vB a n] H K:=by
 refine c.enter hc.ym rfl ?_
 have kA:=H.aj (.cells [.int .i64 a,.int .i64 n] false)
 have hne: ¬ p=H.next:=by have:=h.lt;omega
 obtain⟨u,g1,g2⟩:=h.rep
 unfold Acc.may at hK
 simp -implicitDefEqProofs [jh,vB,aT]
 refine aI c.mono (zq c hB (a:=a) (n:=n) fun H1 k1=> ?_)
 have gx:=(k1.get H.next (by simp[YX])).trans (by rw[YV,if_pos rfl])
 have gp:=((kA.trans k1).get p h.lt).trans g1
 cases hv:bJ a n with
 |false=>
  rw[hv]at hK
  simp -implicitDefEqProofs []
  exact hK _ (kA.trans k1)
 |true=>
  rw[hv]at hK
  simp -implicitDefEqProofs [gx,gp]
  refine aI c.mono (Lv c hB (a:=a) (n:=n) (b:=A.pa) (m:=A.pn) fun H2 k2=> ?_)
  simp -implicitDefEqProofs []
  exact hK _ ((kA.trans k1).trans k2)
include hc hB in
theorem QA {p q:Nat}{A:Acc}{a n s:Int}(h:Iu H p q A)(hl:A.L.length≤1000000)
 (hK: ∀v' H',aa.upd [p] H H'→(∀q,Iu H p q A→Iu H' p q (A.promise a n s).1)→qZ H' 4 v' ((A.promise a n s).2.1.map aG)→uj H.next v'→K (.tuple #[v',.bool (A.promise a n s).2.2]) H'):
 c.C (c.F kN) [.pointer (some ⟨p,0,none⟩),vB a n,.int .i64 s] H K:=by
 refine c.enter hc.tL rfl ?_
 have kA:=H.aj (.cells [.int .i64 a,.int .i64 n] false)
 have hpl:=h.lt
 unfold Acc.promise at hK
 simp -implicitDefEqProofs [gy,vB]
 refine av (TC c hc hB (a:=a) (n:=n) (h.le kA) fun H1 k1=> ?_)
 have nI:=kA.trans k1
 have h1:=h.le nI
 have n1:=k1.next
 simp only[YX]at n1
 have gx:=(k1.get H.next (by simp[YX])).trans (by rw[YV,if_pos rfl])
 obtain⟨u,g1,g2⟩:=h1.rep
 cases hm:A.may a n with
 |false=>
  rw[if_pos (.inl hm)]at hK
  simp -implicitDefEqProofs []
  exact hK _ _ (nI.upd _) (fun q h=>h.le nI) (qZ.nil _ 4) (uj.nil _)
 |true=>
  by_cases hs:s<A.base
  ·rw[if_pos (.inr hs)]at hK
   simp -implicitDefEqProofs [aT,g1,hs]
   exact hK _ _ (nI.upd _) (fun q h=>h.le nI) (qZ.nil _ 4) (uj.nil _)
  ·rw[if_neg (by rw[hm];simp[hs])]at hK
   simp -implicitDefEqProofs [aT,g1,hs,gx]
   obtain⟨H2,hH2⟩: ∃X:aa,X=H1.set p (.cells [.int .i64 a,.int .i64 n,.int .i64 A.base,u] false):=⟨_,rfl⟩
   rw[←hH2]
   have u2:aa.upd [p] H1 H2:=by rw[hH2];exact(aa.iE _ _).set (.inr (by simp)) _
   have n2:H2.next=H1.next:=by rw[hH2];rfl
   have h2:Iu H2 p q {A with pa:=a,pn:=n}:=⟨by rw[n2];exact h1.lt,h.ne,⟨u,by rw[hH2,YW,if_pos rfl],g2.upd u2 (by simpa using Ne.symm h.ne)⟩,h.sorted⟩
   refine av (UB c hc (s:=s) h2 hl fun v3 H3 k3 s3 f3=> ?_)
   simp -implicitDefEqProofs []
   refine hK _ _ ((nI.Qk u2).trans (k3.upd _)) (fun q h=> ?_) s3 (f3.weak (by omega))
   have h1:=h.le nI
   obtain⟨u',g1',g2'⟩:=h1.rep
   rw[g1]at g1'
   obtain rfl:u=u':=by simpa using g1'
   exact Iu.le ⟨by rw[n2];exact h1.lt,h.ne,⟨u,by rw[hH2,YW,if_pos rfl],g2'.upd u2 (by simpa using Ne.symm h.ne)⟩,h.sorted⟩ k3
end
end
section
def TD (c:Ctx):Prop:=∀(H:aa) (K:Value→aa→Prop) (q vb i:Nat) (u:Value) (rows:List (List Value)) (new:List Value),VS H q u rows→(∀r ∈ rows,r.length=4)→rows.flatten.all cO=true →
 H.get vb=some (.cells new false)→vb<H.next→vb≠q→new.length=4→new.all cO=true→i≤rows.length→rows.length≤1000000 →
 (∀q' H',aa.upd [q] H H'→H.next≤q'→VS H' q' (.slice (some ⟨q',0,none⟩) (rows.length+1) (dY+4)) (rows.take i++new::rows.drop i)→K (.slice (some ⟨q',0,none⟩) (rows.length+1) (dY+4)) H') →
 c.C (c.F bf) [u,.int .i64 i,.slice (some ⟨vb,0,none⟩) 1 1] H K
theorem Sq {cs:List Value}{rows:List (List Value)}(h4: ∀r ∈ rows,r.length=4)(h:cs.take (rows.length*4)=rows.flatten){i:Nat}(hi:i≤rows.length):cs.take (i*4)=(rows.take i).flatten:=by
 have:=congrArg (List.take (i*4)) h
 have hsp:=pY rows i
 have hpre:((rows.take i).flatten).length=i*4:=by rw[dR _ 4 fun r hr=>h4 r (List.mem_of_mem_take hr),List.length_take];omega
 rw[List.take_take,Nat.min_eq_left (by omega),hsp,←hpre,List.take_left,hpre]at this
 exact this
theorem Sr {cs:List Value}{rows:List (List Value)}(h4: ∀r ∈ rows,r.length=4)(h:cs.take (rows.length*4)=rows.flatten){i:Nat}(hi:i≤rows.length):(cs.drop (i*4)).take ((rows.length-i)*4)=(rows.drop i).flatten:=by
 have:=congrArg (List.drop (i*4)) h
 have hsp:=pY rows i
 have hpre:((rows.take i).flatten).length=i*4:=by rw[dR _ 4 fun r hr=>h4 r (List.mem_of_mem_take hr),List.length_take];omega
 rw[List.drop_take,hsp,←hpre,List.drop_left,hpre]at this
 rw[←this]
 congr 1;omega
theorem UC {cs r:List Value}{rows:List (List Value)}(h4: ∀r ∈ rows,r.length=4)(h:cs.take (rows.length*4)=rows.flatten)(hl:rows.length*4≤cs.length){i:Nat}(hi:i<rows.length)(hr:r.length=4):
 (putAt cs (i*4) r).take (rows.length*4)=(rows.set i r).flatten:=by
 rw[List.set_eq_take_append_cons_drop,if_pos hi,List.flatten_append,List.flatten_cons]
 have e1:=Sq h4 h (i:=i) (by omega)
 have e2:=Sr h4 h (i:=i+1) (by omega)
 unfold putAt
 have l1:(cs.take (i*4)).length=i*4:=by rw[List.length_take];omega
 rw[←e1,←e2,List.append_assoc,List.take_append,l1,List.take_take,Nat.min_eq_right (by omega),List.take_append,hr]
 congr 1
 rw[List.take_of_length_le (by omega)]
 congr 1
 rw[show i*4+4=(i+1)*4 by omega]
 congr 1
 omega
section
variable (c:Ctx) (hc:pW c) (hB:iG c) (hI:TD c) {H:aa} {K:Value→aa→Prop}
include hc hB hI in
theorem Su {p q:Nat}{A:Acc}{v:ay}(h:Iu H p q A)(hl:A.L.length≤1000000)
 (hK: ∀q' H',aa.upd [p,q] H H'→(q'=q∨H.next≤q')→Iu H' p q' (A.accept v).1→K (.bool (A.accept v).2) H'):
 c.C (c.F lF) [.pointer (some ⟨p,0,none⟩),vV v] H K:=by
 refine c.enter hc.uI rfl ?_
 have hpl:=h.lt
 have kA:=H.aj (.cells [.int .i64 v.slot,.int .i64 v.a,.int .i64 v.n,.string v.val] false)
 unfold Acc.accept at hK
 simp -implicitDefEqProofs [gK,vV]
 refine aI c.mono (TC c hc hB (a:=v.a) (n:=v.n) (h.le kA) fun H1 k1=> ?_)
 have nI:=kA.trans k1
 have h1:=h.le nI
 have n1:=k1.next
 simp only[YX]at n1
 have gx:=(k1.get H.next (by simp[YX])).trans (by rw[YV,if_pos rfl])
 obtain⟨u,g1,g2⟩:=h1.rep
 cases hm:A.may v.a v.n with
 |false=>
  rw[if_pos (.inl hm)]at hK
  simp -implicitDefEqProofs [gx]
  exact hK q _ (nI.upd _) (.inl rfl) h1
 |true=>
  by_cases c1:v.slot<A.base
  ·rw[if_pos (.inr (.inl c1))]at hK
   simp -implicitDefEqProofs [aT,gx,g1,c1]
   exact hK q _ (nI.upd _) (.inl rfl) h1
  ·by_cases c2:1024≤v.slot
   ·rw[if_pos (.inr (.inr (.inl c2)))]at hK
    simp -implicitDefEqProofs [aT,gx,g1,c1,c2]
    exact hK q _ (nI.upd _) (.inl rfl) h1
   ·by_cases c3:(4096:Int)<v.val.data.toList.length
    ·rw[if_pos (.inr (.inr (.inr c3)))]at hK
     obtain⟨ln,hln⟩: ∃ln:Int,ln=v.val.data.toList.length:=⟨_,rfl⟩
     have c3':(4096:Int)<(v.val.size:Int):=c3
     simp -implicitDefEqProofs [aT,gx,g1,c1,c2,c3']
     exact hK q _ (nI.upd _) (.inl rfl) h1
    ·rw[if_neg (by rw[hm];simp only[Bool.true_eq_false,false_or,not_or];exact⟨c1,c2,c3⟩)]at hK
     have c3': ¬ (4096:Int)<(v.val.size:Int):=c3
     simp -implicitDefEqProofs [aT,gx,g1,c1,c2,c3']
     obtain⟨H2,hH2⟩: ∃X:aa,X=H1.set p (.cells [.int .i64 v.a,.int .i64 v.n,.int .i64 A.base,u] false):=⟨_,rfl⟩
     have hpx: ¬ H.next=p:=by omega
     have gx2:H2.get H.next=some (.cells [.int .i64 v.slot,.int .i64 v.a,.int .i64 v.n,.string v.val] false):=by rw[hH2,YW,if_neg hpx];exact gx
     have gp2:H2.get p=some (.cells [.int .i64 v.a,.int .i64 v.n,.int .i64 A.base,u] false):=by rw[hH2,YW,if_pos rfl]
     have u2:aa.upd [p] H1 H2:=by rw[hH2];exact(aa.iE _ _).set (.inr (by simp)) _
     have n2:H2.next=H1.next:=by rw[hH2];rfl
     have g22:=g2.upd u2 (by simpa using Ne.symm h.ne)
     have h2:Iu H2 p q {A with pa:=v.a,pn:=v.n}:=⟨by rw[n2];exact h1.lt,h.ne,⟨u,gp2,g22⟩,h.sorted⟩
     have up2:aa.upd [p,q] H H2:=nI.Qk ⟨u2.next,fun b hb hn=>u2.get b hb fun hh=>hn (by simp at hh;simp[hh])⟩
     simp -implicitDefEqProofs [←hH2,gx2,hpx]
     refine av (find_ok c hc (s:=v.slot) h2 hl fun H3 k3=> ?_)
     have gx3:=(k3.get H.next (by omega)).trans gx2
     have gp3:=(k3.get p (by omega)).trans gp2
     have g23:=g22.le k3
     have n3:=k3.next
     have Sn:=Kn v.slot A.L
     have up3:aa.upd [p,q] H H3:=up2.trans (k3.upd _)
     simp only
     cases ht:jE A.L v.slot with
     |true=>
      have hput:=Zc h.sorted ht
      have hpos:fI v.slot A.L<A.L.length:=by
       unfold jE at ht
       cases hq:A.L[fI v.slot A.L]? with
       |none=>rw[hq]at ht;cases ht
       |some w=>exact(List.getElem?_eq_some_iff.1 hq).1
      rcases g23 with⟨hr0,rfl⟩|⟨cs,hq,rfl,gq,hcs,hcl⟩
      ·exfalso
       have hL0:A.L=[]:=by simpa using hr0
       rw[hL0]at hpos;simp at hpos
      ·rw[List.length_map]at hcs hcl gp3
       have Ze:(fI v.slot A.L:Int)<(A.L.length:Int):=by omega
       have k4:fI v.slot A.L*4+4≤cs.length:=by omega
       obtain⟨cs2,hcs2⟩: ∃x,x=putAt cs (fI v.slot A.L*4) (aG v):=⟨_,rfl⟩
       have fo:List.take (fI v.slot A.L*4) cs++(Value.int .i64 v.slot::Value.int .i64 v.a::Value.int .i64 v.n::Value.string v.val::List.drop (fI v.slot A.L*4+4) cs)=cs2:=by rw[hcs2];simp[putAt,aG]
       have hset:=UC (vN A.L) (by rw[List.length_map];exact hcs) (by rw[List.length_map];exact hcl) (i:=fI v.slot A.L) (r:=aG v) (by rw[List.length_map];exact hpos) rfl
       rw[←hcs2,List.length_map]at hset
       have l2:cs2.length=cs.length:=by rw[hcs2];exact rA (by simp[aG];omega)
       simp -implicitDefEqProofs [gp3,gx3,hpos,Ze,gq,k4,fo]
       refine hK q _ (up3.set (.inr (by simp)) _) (.inl rfl) ⟨by simp only[YY];omega,h.ne,⟨_,by rw[YW,if_neg h.ne];exact gp3,.inr ⟨cs2,by simp only[YY];exact hq,?_,by rw[YW,if_pos rfl],?_,?_⟩⟩,Ir h.sorted v⟩
       ·simp[hput]
       ·rw[List.length_map,hput,List.length_set,hset,List.map_set]
       ·rw[List.length_map,hput,List.length_set];omega
     |false=>
      have hput:=Wt h.sorted ht
      obtain⟨H4,qN⟩: ∃X:aa,X=H3.alloc (.cells [.int .i64 v.slot,.int .i64 v.a,.int .i64 v.n,.string v.val] false):=⟨_,rfl⟩
      have k4:H3.le H4:=by rw[qN];exact H3.aj _
      have n4:H4.next=H3.next+1:=by rw[qN];rfl
      have g4:H4.get H3.next=some (.cells [.int .i64 v.slot,.int .i64 v.a,.int .i64 v.n,.string v.val] false):=by rw[qN,YV,if_pos rfl]
      have gp4:=(k4.get p (by omega)).trans gp3
      obtain⟨q0,hq0,hq1,hq2,hv4⟩: ∃q0,q0≠H3.next∧q0≠p∧(q0=q∨H4.next≤q0)∧VS H4 q0 u (A.L.map aG):=by
       rcases g23 with⟨hr0,rfl⟩|⟨cs,hq,rfl,gq,hcs,hcl⟩
       ·exact⟨H4.next,by omega,by omega,.inr (Nat.le_refl _),.inl ⟨hr0,rfl⟩⟩
       ·exact⟨q,by omega,Ne.symm h.ne,.inl rfl,(VS.le (.inr ⟨cs,hq,rfl,gq,hcs,hcl⟩) k4)⟩
      obtain⟨au,cu,eu⟩:=hv4.Uy
      have hins:=fun K2 hk=>hI H4 K2 q0 H3.next (fI v.slot A.L) u _ (aG v) hv4 (vN _) (EZ _) g4 (by omega) (Ne.symm hq0) rfl rfl (by rw[List.length_map];exact Sn) (by rw[List.length_map];exact hl) hk
      rw[List.length_map]at eu
      rw[eu]at hins gp3
      simp -implicitDefEqProofs [gp3,gx3,←qN]
      refine aI c.mono (hins _ fun q' H5 u5 hq' vs5=> ?_)
      have gp5:=(u5.get p (by omega) (by simpa using Ne.symm hq1)).trans gp4
      rw[eu]at gp5
      rw[List.length_map]at vs5 ⊢
      have n5:=u5.next
      have qbr:p≠q':=by omega
      have e1:(A.L.map aG).take (fI v.slot A.L)++aG v::(A.L.map aG).drop (fI v.slot A.L)=(xG A.L v).map aG:=by rw[hput];simp[List.map_take,List.map_drop]
      rw[e1]at vs5
      simp -implicitDefEqProofs [gp5,aQ]
      have up5:aa.upd [p,q] H H5:=⟨Nat.le_trans up3.next (Nat.le_trans k4.next n5),fun b hb hn=>by
       have hb3:b<H3.next:=Nat.lt_of_lt_of_le hb up3.next
       rw[u5.get b (by omega) (fun hm=>by
        simp only[List.mem_singleton]at hm
        rcases hq2 with e|e
        ·exact hn (by simp[hm,e])
        ·omega),k4.get b hb3]
       exact up3.get b hb hn⟩
      have qcH:=up3.next
      refine hK q' _ (up5.set (.inr (by simp)) _) (.inr (by omega)) ⟨by simp only[YY];omega,qbr,⟨_,by rw[YW,if_pos rfl],vs5.upd ((aa.iE [p] _).set (.inr (by simp)) _) (by simpa using Ne.symm qbr)⟩,Ir h.sorted v⟩
end
end
end
abbrev De:Nat:=81
abbrev nY:Nat:=83
abbrev nZ:Nat:=84
abbrev og:Nat:=85
abbrev oh:Nat:=86
abbrev pz:Nat:=87
abbrev om:Nat:=88
abbrev yo:Nat:=89
abbrev vO:Nat:=90
abbrev uJ:Nat:=91
def uK (F:Nat→FuncId)(Ty:Nat→TypeId):aA:=⟨11,[.tmp 2],.seq (.ops [⟨some 2,.move (.const (.pointer none)),none⟩]) (.seq (.seq (.ops [⟨some 3,.move (.tmp 0),none⟩,⟨some 4,.call (F 7) [.tmp 3],none⟩,⟨some 5,.bin .eql (.tmp 4) (.const (.int .i64 0)),none⟩]) (.cond (.tmp 5) (.seq (.ops [⟨some 2,.move (.const (.pointer none)),none⟩]) (.ret)) (.skip))) (.seq (.ops [⟨some 6,.move (.tmp 0),none⟩,⟨some 7,.mkMap,none⟩,⟨some 8,.mkMap,none⟩,⟨some 9,.build [.int .i64 0,.int .i64 0,.map none,.map none] [((0,1),.tmp 6),((2,1),.tmp 7),((3,1),.tmp 8)],none⟩,⟨some 10,.box (.tmp 9),none⟩,⟨some 2,.move (.tmp 10),none⟩]) (.ret)))⟩
def jF (F:Nat→FuncId)(Ty:Nat→TypeId):aA:=⟨80,[.tmp 6],.seq (.ops [⟨some 5,.box (.tmp 2),none⟩,⟨some 6,.move (.const (.bool false)),none⟩]) (.seq (.seq (.ops [⟨some 10,.move (.tmp 0),none⟩,⟨some 11,.fieldAddr 0 (.tmp 5),none⟩,⟨some 12,.ah (.tmp 11),none⟩,⟨some 13,.fieldAddr 3 (.tmp 5),none⟩,⟨some 14,.ah (.tmp 13),none⟩,⟨some 15,.call (F 89) [.tmp 10,.tmp 12,.tmp 14],none⟩,⟨some 16,.un .not (.tmp 15),none⟩,⟨some 17,.move (.tmp 16),none⟩,⟨some 18,.move (.tmp 1),some (17,false)⟩,⟨some 19,.bin .lss (.tmp 18) (.const (.int .i64 0)),some (17,false)⟩,⟨some 20,.pick (.tmp 17) (.const (.bool true)) (.tmp 19),none⟩,⟨some 21,.move (.tmp 20),none⟩,⟨some 22,.move (.tmp 1),some (21,false)⟩,⟨some 23,.move (.tmp 0),some (21,false)⟩,⟨some 24,.nilCheck (.tmp 23),some (21,false)⟩,⟨some 25,.fieldAddr 0 (.tmp 24),some (21,false)⟩,⟨some 26,.ah (.tmp 25),some (21,false)⟩,⟨some 27,.bin .geq (.tmp 22) (.tmp 26),some (21,false)⟩,⟨some 28,.pick (.tmp 21) (.const (.bool true)) (.tmp 27),none⟩,⟨some 29,.move (.tmp 28),none⟩,⟨some 30,.fieldAddr 1 (.tmp 5),some (29,false)⟩,⟨some 31,.ak 2 (.tmp 30),some (29,false)⟩,⟨some 32,.call (F 5) [.tmp 31],some (29,false)⟩,⟨some 33,.un .not (.tmp 32),some (29,false)⟩,⟨some 34,.pick (.tmp 29) (.const (.bool true)) (.tmp 33),none⟩]) (.cond (.tmp 34) (.seq (.ops [⟨some 6,.move (.const (.bool false)),none⟩]) (.ret)) (.skip))) (.seq (.ops [⟨some 35,.fieldAddr 0 (.tmp 5),none⟩,⟨some 36,.ah (.tmp 35),none⟩,⟨some 37,.move (.tmp 1),none⟩,⟨some 38,.build [.int .i64 0,.int .i64 0] [((0,1),.tmp 36),((1,1),.tmp 37)],none⟩,⟨some 7,.alloc [.int .i64 0,.int .i64 0],none⟩,⟨none,.store 2 (.tmp 7) (.tmp 38),none⟩]) (.seq (.seq (.draw [(⟨some 40,.move (.tmp 0),none⟩,[]),(⟨some 41,.nilCheck (.tmp 40),none⟩,[]),(⟨some 42,.fieldAddr 3 (.tmp 41),none⟩,[]),(⟨some 43,.ah (.tmp 42),none⟩,[]),(⟨some 44,.ak 2 (.tmp 7),none⟩,[]),(⟨some 45,.lookup (Ty 3) (.agg #[.int .i64 0,.int .i64 0,.int .i64 0,.string ⟨#[]⟩]) true (.tmp 43) (.tmp 44),none⟩,[]),(⟨some 39,.move (.tmp 45),none⟩,[]),(⟨some 46,.extract (.tmp 39) 0,none⟩,[]),(⟨some 47,.extract (.tmp 39) 1,none⟩,[]),(⟨some 8,.alloc [.int .i64 0,.int .i64 0,.int .i64 0,.string ⟨#[]⟩],none⟩,[]),(⟨none,.store 4 (.tmp 8) (.tmp 46),none⟩,[]),(⟨some 9,.move (.tmp 47),none⟩,[])]) (.seq (.ops [⟨some 48,.move (.tmp 9),none⟩,⟨some 49,.move (.tmp 48),none⟩,⟨some 50,.fieldAddr 1 (.tmp 8),some (49,true)⟩,⟨some 51,.ak 2 (.tmp 50),some (49,true)⟩,⟨some 52,.fieldAddr 1 (.tmp 5),some (49,true)⟩,⟨some 53,.ak 2 (.tmp 52),some (49,true)⟩,⟨some 54,.call (F 4) [.tmp 51,.tmp 53],some (49,true)⟩,⟨some 55,.bin .geq (.tmp 54) (.const (.int .i64 0)),some (49,true)⟩,⟨some 56,.pick (.tmp 49) (.tmp 55) (.const (.bool false)),none⟩]) (.cond (.tmp 56) (.seq (.ops [⟨some 6,.move (.const (.bool false)),none⟩]) (.ret)) (.skip)))) (.seq (.draw [(⟨some 57,.move (.tmp 0),none⟩,[]),(⟨some 58,.nilCheck (.tmp 57),none⟩,[]),(⟨some 59,.fieldAddr 3 (.tmp 58),none⟩,[]),(⟨some 60,.ah (.tmp 59),none⟩,[]),(⟨some 61,.ak 2 (.tmp 7),none⟩,[]),(⟨some 62,.ak 4 (.tmp 5),none⟩,[]),(⟨none,.mapUpdate (Ty 3) (.tmp 60) (.tmp 61) (.tmp 62),none⟩,[])]) (.seq (.seq (.draw [(⟨some 63,.move (.tmp 0),none⟩,[]),(⟨some 64,.ak 4 (.tmp 5),none⟩,[]),(⟨some 68,.move (.tmp 0),none⟩,[]),(⟨some 69,.nilCheck (.tmp 68),none⟩,[]),(⟨some 70,.fieldAddr 0 (.tmp 69),none⟩,[]),(⟨some 71,.ah (.tmp 70),none⟩,[]),(⟨some 65,.call (F 90) [.tmp 63,.tmp 64],none⟩,[⟨some 71,.ah (.tmp 70),none⟩]),(⟨some 66,.raw (.call ⟨.builtin .real,#[.tmp 65],#[(Ty 4)]⟩) (Ty 5),none⟩,[]),(⟨some 67,.raw (.convert (Ty 5) (Ty 2) (.tmp 66)) (Ty 2),none⟩,[]),(⟨some 72,.call (F 7) [.tmp 71],none⟩,[]),(⟨some 73,.bin .lss (.tmp 67) (.tmp 72),none⟩,[])]) (.cond (.tmp 73) (.seq (.ops [⟨some 6,.move (.const (.bool false)),none⟩]) (.ret)) (.skip))) (.seq (.ops [⟨some 74,.move (.tmp 0),none⟩,⟨some 75,.fieldAddr 0 (.tmp 5),none⟩,⟨some 76,.ah (.tmp 75),none⟩,⟨some 77,.fieldAddr 3 (.tmp 5),none⟩,⟨some 78,.ah (.tmp 77),none⟩,⟨some 79,.call (F 84) [.tmp 74,.tmp 76,.tmp 78],none⟩,⟨some 6,.move (.tmp 79),none⟩]) (.ret)))))))⟩
def jG (F:Nat→FuncId)(Ty:Nat→TypeId):aA:=⟨21,[.tmp 6],.seq (.ops [⟨some 6,.move (.const (.bool false)),none⟩]) (.seq (.seq (.ops [⟨some 7,.move (.tmp 0),none⟩,⟨some 8,.move (.tmp 1),none⟩,⟨some 9,.move (.tmp 2),none⟩,⟨some 10,.call (F 89) [.tmp 7,.tmp 8,.tmp 9],none⟩,⟨some 11,.un .not (.tmp 10),none⟩]) (.cond (.tmp 11) (.seq (.ops [⟨some 6,.move (.const (.bool false)),none⟩]) (.ret)) (.skip))) (.seq (.ops [⟨some 12,.move (.tmp 0),none⟩,⟨some 13,.nilCheck (.tmp 12),none⟩,⟨some 14,.fieldAddr 2 (.tmp 13),none⟩,⟨some 15,.ah (.tmp 14),none⟩,⟨some 16,.move (.tmp 1),none⟩,⟨some 17,.move (.tmp 2),none⟩,⟨none,.mapUpdate (Ty 2) (.tmp 15) (.tmp 16) (.tmp 17),none⟩]) (.seq (.ops [⟨some 18,.move (.tmp 0),none⟩,⟨some 19,.move (.tmp 1),none⟩,⟨some 20,.call (F 91) [.tmp 18,.tmp 19],none⟩]) (.seq (.ops [⟨some 6,.move (.const (.bool true)),none⟩]) (.ret)))))⟩
def jH (F:Nat→FuncId)(Ty:Nat→TypeId):aA:=⟨36,[.tmp 4],.seq (.ops [⟨some 4,.move (.const (.int .i64 0)),none⟩]) (.seq (.seq (.ops [⟨some 6,.move (.tmp 0),none⟩,⟨some 7,.fC 0 false (.tmp 6),none⟩]) (.cond (.tmp 7) (.seq (.ops [⟨some 4,.move (.const (.int .i64 0)),none⟩]) (.ret)) (.skip))) (.seq (.ops [⟨some 8,.move (.tmp 1),none⟩,⟨some 9,.move (.tmp 0),none⟩,⟨some 10,.call (F 88) [.tmp 9],none⟩,⟨some 11,.PK false (.tmp 8) (.tmp 10),none⟩,⟨some 1,.move (.tmp 11),none⟩]) (.seq (.ops [⟨some 5,.move (.const (.int .i64 0)),none⟩]) (.seq (.block 0 (.loop (.seq (.seq (.ops [⟨some 12,.move (.tmp 0),none⟩,⟨some 13,.nilCheck (.tmp 12),none⟩,⟨some 14,.fieldAddr 1 (.tmp 13),none⟩,⟨some 15,.ah (.tmp 14),none⟩,⟨some 16,.move (.tmp 1),none⟩,⟨some 17,.bin .lss (.tmp 15) (.tmp 16),none⟩]) (.cond (.tmp 17) (.skip) (.exit 0))) (.seq (.block 1 (.seq (.draw [(⟨some 20,.move (.tmp 0),none⟩,[]),(⟨some 21,.nilCheck (.tmp 20),none⟩,[]),(⟨some 22,.fieldAddr 2 (.tmp 21),none⟩,[]),(⟨some 23,.ah (.tmp 22),none⟩,[]),(⟨some 24,.move (.tmp 0),none⟩,[]),(⟨some 25,.nilCheck (.tmp 24),none⟩,[]),(⟨some 26,.fieldAddr 1 (.tmp 25),none⟩,[]),(⟨some 27,.ah (.tmp 26),none⟩,[]),(⟨none,.delete (Ty 2) (.tmp 23) (.tmp 27),none⟩,[])]) (.ops [⟨some 28,.move (.tmp 0),none⟩,⟨some 29,.nilCheck (.tmp 28),none⟩,⟨some 30,.fieldAddr 1 (.tmp 29),none⟩,⟨some 31,.ah (.tmp 30),none⟩,⟨some 32,.bin .add (.tmp 31) (.const (.int .i64 1)),none⟩,⟨some 33,.nilCheck (.tmp 28),none⟩,⟨some 34,.fieldAddr 1 (.tmp 33),none⟩,⟨none,.store 1 (.tmp 34) (.tmp 32),none⟩]))) (.ops [⟨some 18,.move (.tmp 5),none⟩,⟨some 19,.bin .add (.tmp 18) (.const (.int .i64 1)),none⟩,⟨some 5,.move (.tmp 19),none⟩]))))) (.seq (.ops [⟨some 35,.move (.tmp 5),none⟩,⟨some 4,.move (.tmp 35),none⟩]) (.ret))))))⟩
def jI (F:Nat→FuncId)(Ty:Nat→TypeId):aA:=⟨9,[.tmp 2],.seq (.ops [⟨some 2,.move (.const (.int .i64 0)),none⟩]) (.seq (.seq (.ops [⟨some 3,.move (.tmp 0),none⟩,⟨some 4,.fC 0 false (.tmp 3),none⟩]) (.cond (.tmp 4) (.seq (.ops [⟨some 2,.move (.const (.int .i64 0)),none⟩]) (.ret)) (.skip))) (.seq (.ops [⟨some 5,.move (.tmp 0),none⟩,⟨some 6,.nilCheck (.tmp 5),none⟩,⟨some 7,.fieldAddr 1 (.tmp 6),none⟩,⟨some 8,.ah (.tmp 7),none⟩,⟨some 2,.move (.tmp 8),none⟩]) (.ret)))⟩
def jW (F:Nat→FuncId)(Ty:Nat→TypeId):aA:=⟨31,[.tmp 4],.seq (.ops [⟨some 4,.move (.const (.slice none 0 0)),none⟩]) (.seq (.seq (.ops [⟨some 7,.move (.tmp 0),none⟩,⟨some 8,.fC 0 false (.tmp 7),none⟩]) (.cond (.tmp 8) (.seq (.ops [⟨some 4,.move (.const (.slice none 0 0)),none⟩]) (.ret)) (.skip))) (.seq (.ops [⟨some 5,.move (.const (.slice none 0 0)),none⟩]) (.seq (.seq (.ops [⟨some 9,.move (.tmp 1),none⟩,⟨some 10,.move (.tmp 0),none⟩,⟨some 11,.nilCheck (.tmp 10),none⟩,⟨some 12,.fieldAddr 1 (.tmp 11),none⟩,⟨some 13,.ah (.tmp 12),none⟩,⟨some 14,.PK true (.tmp 9) (.tmp 13),none⟩,⟨some 6,.move (.tmp 14),none⟩]) (.block 0 (.loop (.seq (.seq (.ops [⟨some 15,.move (.tmp 6),none⟩,⟨some 16,.move (.tmp 0),none⟩,⟨some 17,.call (F 88) [.tmp 16],none⟩,⟨some 18,.bin .lss (.tmp 15) (.tmp 17),none⟩]) (.cond (.tmp 18) (.skip) (.exit 0))) (.seq (.block 1 (.ops [⟨some 21,.move (.tmp 5),none⟩,⟨some 22,.move (.tmp 0),none⟩,⟨some 23,.nilCheck (.tmp 22),none⟩,⟨some 24,.fieldAddr 2 (.tmp 23),none⟩,⟨some 25,.ah (.tmp 24),none⟩,⟨some 26,.move (.tmp 6),none⟩,⟨some 27,.lookup (Ty 2) (.string ⟨#[]⟩) false (.tmp 25) (.tmp 26),none⟩,⟨some 28,.buildSlice 1 [.string ⟨#[]⟩] [((0,1),.tmp 27)],none⟩,⟨some 29,.append 1 16 (.tmp 21) (.tmp 28),none⟩,⟨some 5,.move (.tmp 29),none⟩])) (.ops [⟨some 19,.move (.tmp 6),none⟩,⟨some 20,.bin .add (.tmp 19) (.const (.int .i64 1)),none⟩,⟨some 6,.move (.tmp 20),none⟩])))))) (.seq (.ops [⟨some 30,.move (.tmp 5),none⟩,⟨some 4,.move (.tmp 30),none⟩]) (.ret)))))⟩
def jJ (F:Nat→FuncId)(Ty:Nat→TypeId):aA:=⟨26,[.tmp 2],.seq (.ops [⟨some 2,.move (.const (.int .i64 0)),none⟩]) (.seq (.seq (.ops [⟨some 6,.move (.tmp 0),none⟩,⟨some 7,.fC 0 false (.tmp 6),none⟩]) (.cond (.tmp 7) (.seq (.ops [⟨some 2,.move (.const (.int .i64 0)),none⟩]) (.ret)) (.skip))) (.seq (.ops [⟨some 8,.move (.tmp 0),none⟩,⟨some 9,.nilCheck (.tmp 8),none⟩,⟨some 10,.fieldAddr 1 (.tmp 9),none⟩,⟨some 11,.ah (.tmp 10),none⟩,⟨some 3,.move (.tmp 11),none⟩]) (.block 0 (.loop (.block 1 (.seq (.seq (.ops [⟨some 13,.move (.tmp 0),none⟩,⟨some 14,.nilCheck (.tmp 13),none⟩,⟨some 15,.fieldAddr 2 (.tmp 14),none⟩,⟨some 16,.ah (.tmp 15),none⟩,⟨some 17,.move (.tmp 3),none⟩,⟨some 18,.lookup (Ty 2) (.string ⟨#[]⟩) true (.tmp 16) (.tmp 17),none⟩,⟨some 12,.move (.tmp 18),none⟩,⟨some 19,.extract (.tmp 12) 0,none⟩,⟨some 20,.extract (.tmp 12) 1,none⟩,⟨some 4,.move (.tmp 19),none⟩,⟨some 5,.move (.tmp 20),none⟩]) (.seq (.ops [⟨some 21,.move (.tmp 5),none⟩,⟨some 22,.un .not (.tmp 21),none⟩]) (.cond (.tmp 22) (.seq (.ops [⟨some 23,.move (.tmp 3),none⟩,⟨some 2,.move (.tmp 23),none⟩]) (.ret)) (.skip)))) (.ops [⟨some 24,.move (.tmp 3),none⟩,⟨some 25,.bin .add (.tmp 24) (.const (.int .i64 1)),none⟩,⟨some 3,.move (.tmp 25),none⟩])))))))⟩
def dP (F:Nat→FuncId)(Ty:Nat→TypeId):aA:=⟨39,[.tmp 6],.seq (.ops [⟨some 6,.move (.const (.bool false)),none⟩]) (.seq (.seq (.ops [⟨some 9,.move (.tmp 0),none⟩,⟨some 10,.fC 0 false (.tmp 9),none⟩,⟨some 11,.move (.tmp 10),none⟩,⟨some 12,.move (.tmp 1),some (11,false)⟩,⟨some 13,.move (.tmp 0),some (11,false)⟩,⟨some 14,.nilCheck (.tmp 13),some (11,false)⟩,⟨some 15,.fieldAddr 1 (.tmp 14),some (11,false)⟩,⟨some 16,.ah (.tmp 15),some (11,false)⟩,⟨some 17,.bin .lss (.tmp 12) (.tmp 16),some (11,false)⟩,⟨some 18,.pick (.tmp 11) (.const (.bool true)) (.tmp 17),none⟩,⟨some 19,.move (.tmp 18),none⟩,⟨some 20,.move (.tmp 1),some (19,false)⟩,⟨some 21,.bin .geq (.tmp 20) (.const (.int .i64 1024)),some (19,false)⟩,⟨some 22,.pick (.tmp 19) (.const (.bool true)) (.tmp 21),none⟩,⟨some 23,.move (.tmp 22),none⟩,⟨some 24,.move (.tmp 2),some (23,false)⟩,⟨some 25,.pI (.tmp 24),some (23,false)⟩,⟨some 26,.bin .gtr (.tmp 25) (.const (.int .i64 4096)),some (23,false)⟩,⟨some 27,.pick (.tmp 23) (.const (.bool true)) (.tmp 26),none⟩]) (.cond (.tmp 27) (.seq (.ops [⟨some 6,.move (.const (.bool false)),none⟩]) (.ret)) (.skip))) (.seq (.ops [⟨some 29,.move (.tmp 0),none⟩,⟨some 30,.nilCheck (.tmp 29),none⟩,⟨some 31,.fieldAddr 2 (.tmp 30),none⟩,⟨some 32,.ah (.tmp 31),none⟩,⟨some 33,.move (.tmp 1),none⟩,⟨some 34,.lookup (Ty 2) (.string ⟨#[]⟩) true (.tmp 32) (.tmp 33),none⟩,⟨some 28,.move (.tmp 34),none⟩,⟨some 35,.extract (.tmp 28) 0,none⟩,⟨some 36,.extract (.tmp 28) 1,none⟩,⟨some 7,.move (.tmp 35),none⟩,⟨some 8,.move (.tmp 36),none⟩]) (.seq (.ops [⟨some 37,.move (.tmp 8),none⟩,⟨some 38,.un .not (.tmp 37),none⟩,⟨some 6,.move (.tmp 38),none⟩]) (.ret))))⟩
def ji (F:Nat→FuncId)(Ty:Nat→TypeId):aA:=⟨38,[.tmp 4],.seq (.ops [⟨some 3,.box (.tmp 1),none⟩,⟨some 4,.move (.const (.complex .f64 0 0)),none⟩]) (.seq (.ops [⟨some 5,.move (.const (.complex .f64 0 0)),none⟩]) (.seq (.seq (.ops [⟨some 9,.move (.tmp 0),none⟩,⟨some 10,.nilCheck (.tmp 9),none⟩,⟨some 11,.fieldAddr 0 (.tmp 10),none⟩,⟨some 12,.ah (.tmp 11),none⟩,⟨some 13,.move (.const (.int .i64 0)),none⟩]) (.block 0 (.loop (.seq (.ops [⟨some 14,.bin .lss (.tmp 13) (.tmp 12),none⟩]) (.seq (.cond (.tmp 14) (.skip) (.exit 0)) (.seq (.block 1 (.seq (.ops [⟨some 15,.move (.tmp 13),none⟩,⟨some 6,.move (.tmp 15),none⟩]) (.seq (.draw [(⟨some 17,.move (.tmp 0),none⟩,[]),(⟨some 18,.nilCheck (.tmp 17),none⟩,[]),(⟨some 19,.fieldAddr 3 (.tmp 18),none⟩,[]),(⟨some 20,.ah (.tmp 19),none⟩,[]),(⟨some 21,.fieldAddr 0 (.tmp 3),none⟩,[]),(⟨some 22,.ah (.tmp 21),none⟩,[]),(⟨some 23,.move (.tmp 6),none⟩,[]),(⟨some 24,.build [.int .i64 0,.int .i64 0] [((0,1),.tmp 22),((1,1),.tmp 23)],none⟩,[]),(⟨some 25,.lookup (Ty 3) (.agg #[.int .i64 0,.int .i64 0,.int .i64 0,.string ⟨#[]⟩]) true (.tmp 20) (.tmp 24),none⟩,[]),(⟨some 16,.move (.tmp 25),none⟩,[]),(⟨some 26,.extract (.tmp 16) 0,none⟩,[]),(⟨some 27,.extract (.tmp 16) 1,none⟩,[]),(⟨some 7,.alloc [.int .i64 0,.int .i64 0,.int .i64 0,.string ⟨#[]⟩],none⟩,[]),(⟨none,.store 4 (.tmp 7) (.tmp 26),none⟩,[]),(⟨some 8,.move (.tmp 27),none⟩,[])]) (.seq (.ops [⟨some 28,.move (.tmp 8),none⟩]) (.cond (.tmp 28) (.seq (.ops [⟨some 29,.move (.tmp 5),none⟩,⟨some 30,.raw (.binOp .add (Ty 4) (.tmp 29) (.const (.complex .f64 0 4607182418800017408)) (Ty 4)) (Ty 4),none⟩,⟨some 5,.move (.tmp 30),none⟩]) (.seq (.ops [⟨some 31,.ak 4 (.tmp 7),none⟩,⟨some 32,.ak 4 (.tmp 3),none⟩,⟨some 33,.eqv false [.i .i64,.i .i64,.i .i64,.s] (.tmp 31) (.tmp 32),none⟩]) (.cond (.tmp 33) (.ops [⟨some 34,.move (.tmp 5),none⟩,⟨some 35,.raw (.binOp .add (Ty 4) (.tmp 34) (.const (.complex .f64 4607182418800017408 0)) (Ty 4)) (Ty 4),none⟩,⟨some 5,.move (.tmp 35),none⟩]) (.skip)))) (.skip)))))) (.ops [⟨some 36,.bin .add (.tmp 13) (.const (.int .i64 1)),none⟩,⟨some 13,.move (.tmp 36),none⟩]))))))) (.seq (.ops [⟨some 37,.move (.tmp 5),none⟩,⟨some 4,.move (.tmp 37),none⟩]) (.ret))))⟩
def iW (F:Nat→FuncId)(Ty:Nat→TypeId):aA:=⟨20,[],.seq (.ops [⟨some 5,.move (.tmp 0),none⟩,⟨some 6,.nilCheck (.tmp 5),none⟩,⟨some 7,.fieldAddr 0 (.tmp 6),none⟩,⟨some 8,.ah (.tmp 7),none⟩,⟨some 9,.move (.const (.int .i64 0)),none⟩]) (.block 0 (.loop (.seq (.ops [⟨some 10,.bin .lss (.tmp 9) (.tmp 8),none⟩]) (.seq (.cond (.tmp 10) (.skip) (.exit 0)) (.seq (.block 1 (.seq (.ops [⟨some 11,.move (.tmp 9),none⟩,⟨some 4,.move (.tmp 11),none⟩]) (.ops [⟨some 12,.move (.tmp 0),none⟩,⟨some 13,.nilCheck (.tmp 12),none⟩,⟨some 14,.fieldAddr 3 (.tmp 13),none⟩,⟨some 15,.ah (.tmp 14),none⟩,⟨some 16,.move (.tmp 1),none⟩,⟨some 17,.move (.tmp 4),none⟩,⟨some 18,.build [.int .i64 0,.int .i64 0] [((0,1),.tmp 16),((1,1),.tmp 17)],none⟩,⟨none,.delete (Ty 3) (.tmp 15) (.tmp 18),none⟩]))) (.ops [⟨some 19,.bin .add (.tmp 9) (.const (.int .i64 1)),none⟩,⟨some 9,.move (.tmp 19),none⟩]))))))⟩
structure sF (c:Ctx):Prop where
 QB:c.IP (c.F 81)=some (uK c.F c.Ty)
 zB:c.IP (c.F 83)=some (jF c.F c.Ty)
 zC:c.IP (c.F 84)=some (jG c.F c.Ty)
 zD:c.IP (c.F 85)=some (jH c.F c.Ty)
 zF:c.IP (c.F 86)=some (jI c.F c.Ty)
 AV:c.IP (c.F 87)=some (jW c.F c.Ty)
 zG:c.IP (c.F 88)=some (jJ c.F c.Ty)
 AX:c.IP (c.F 89)=some (dP c.F c.Ty)
 yu:c.IP (c.F 90)=some (ji c.F c.Ty)
 xI:c.IP (c.F 91)=some (iW c.F c.Ty)
end Go.Proofs.YtpbbjfighohokaaGreatI
