/- Ballots: quorums. / PRINTED by gen.py (this session's own): the intermediate form of some functions, and a context's having them. / Ballots: the greatest, the next one. / PRINTED by gen.py (this session's own): the intermediate form of some functions, and a context's having them. / Who proposes: how -/
import Derived.Test.YtpbbjfighohokaaGreatBalA
namespace Go.Proofs.YtpbbjfighohokaaGreatI
open Go
set_option linter.unusedSimpArgs false
set_option linter.unusedVariables false
section
attribute [local simp] J0 J1 J2 J3 J4 J5 J6 J7 J8 J9 Ja Jb Jc Jd Je Jf Jg Jh Ji Jj Jk Jl Jm Jn Jo Jp Jq Jr Js Jt Ju Jv Jw Jx Jy Jz JA JB JC JD JE JF JG JH JI JJ JK JL JM JN JO JP JQ JR JS aQ bZ.kind JT JU JV JW JX JY JZ Y0 Y1 Y2 Y3 Y4 Y5 Y6 Y7 Y8 Y9 Ya Yb Yc Yd Ye Yf Yg Yh Yi Yj Yk Yl Ym Yn Yo Yp Yq jq Yr Ys Yt Yu Yv Yw Yx Yy dZ bA bE Yz YA YB YC YD YE eO YF YG YH YI YJ YK YL YM YN YO YP YQ YR YS YT YU nP bK jR nG bu putAt aa.ah aa.aP aa.aK YV YW YX YY YZ B0 B1 B2 B3 B4 B5 B6 B7 B8 B9 Ba Bb Bc Bd Be Bf Bg Bh Bi Bj Bk Bl Bm Bn Bo Bp
section
section
variable (c:Ctx) (hc:bN c) {H:aa} {K:Value→aa→Prop}
include hc
theorem AL {n:Int}(hK:K (.int .i64 (aO n)) H):c.C (c.F IK) [.int .i64 n] H K:=by
 refine c.enter hc.Mw rfl ?_
 simp -implicitDefEqProofs [qM]
 unfold aO at hK
 by_cases h1:n<1
 ·simp -implicitDefEqProofs [h1]
  simpa[h1]using hK
 ·by_cases h2:7<n
  ·simp -implicitDefEqProofs [h1,h2]
   simpa[h1,h2]using hK
  ·have h0:n.tdiv 2=n/2:=Int.tdiv_eq_ediv_of_nonneg (by omega)
   have h3:IntKind.i64.wrap (n.tdiv 2)=n.tdiv 2:=wrap64 (by omega) (by omega)
   have h4:IntKind.i64.wrap (n.tdiv 2+1)=n.tdiv 2+1:=wrap64 (by omega) (by omega)
   simp -implicitDefEqProofs [h1,h2,h3,h4]
   simpa[h1,h2]using hK
theorem lM {n:Int}(hK:K (.int .i64 (aO n)) H):c.C (c.F zo) [.int .i64 n] H K:=by
 refine c.enter hc.Dz rfl ?_
 simp -implicitDefEqProofs [lu]
 unfold aO at hK
 by_cases h1:n<1
 ·simp -implicitDefEqProofs [h1]
  simpa[h1]using hK
 ·by_cases h2:7<n
  ·simp -implicitDefEqProofs [h1,h2]
   simpa[h1,h2]using hK
  ·have h0:n.tdiv 2=n/2:=Int.tdiv_eq_ediv_of_nonneg (by omega)
   have h3:IntKind.i64.wrap (n.tdiv 2)=n.tdiv 2:=wrap64 (by omega) (by omega)
   have h4:IntKind.i64.wrap (n.tdiv 2+1)=n.tdiv 2+1:=wrap64 (by omega) (by omega)
   simp -implicitDefEqProofs [h1,h2,h3,h4]
   simpa[h1,h2]using hK
end
end
end
abbrev MB:Nat:=6
abbrev Ou:Nat:=9
abbrev EX:Nat:=8
abbrev lD:Nat:=13
def uB (F:Nat→FuncId)(Ty:Nat→TypeId):aA:=⟨21,[.dD 4 2],.seq (.ops [⟨some 2,.box (.tmp 0),none⟩,⟨some 4,.alloc [.int .i64 0,.int .i64 0],none⟩]) (.seq (.seq (.ops [⟨some 5,.fieldAddr 0 (.tmp 2),none⟩,⟨some 6,.ah (.tmp 5),none⟩,⟨some 7,.bin .lss (.tmp 6) (.const (.int .i64 0)),none⟩,⟨some 8,.move (.tmp 7),none⟩,⟨some 9,.fieldAddr 0 (.tmp 2),some (8,false)⟩,⟨some 10,.ah (.tmp 9),some (8,false)⟩,⟨some 11,.bin .geq (.tmp 10) (.const (.int .i64 2147483647)),some (8,false)⟩,⟨some 12,.pick (.tmp 8) (.const (.bool true)) (.tmp 11),none⟩]) (.cond (.tmp 12) (.seq (.ops [⟨some 13,.build [.int .i64 0,.int .i64 0] [],none⟩,⟨none,.store 2 (.tmp 4) (.tmp 13),none⟩]) (.ret)) (.skip))) (.seq (.ops [⟨some 14,.fieldAddr 0 (.tmp 2),none⟩,⟨some 15,.ah (.tmp 14),none⟩,⟨some 16,.bin .add (.tmp 15) (.const (.int .i64 1)),none⟩,⟨some 17,.move (.tmp 1),none⟩,⟨some 18,.PK true (.tmp 17) (.const (.int .i64 0)),none⟩,⟨some 19,.PK false (.tmp 18) (.const (.int .i64 6)),none⟩,⟨some 20,.build [.int .i64 0,.int .i64 0] [((0,1),.tmp 16),((1,1),.tmp 19)],none⟩,⟨none,.store 2 (.tmp 4) (.tmp 20),none⟩]) (.ret)))⟩
def rf (F:Nat→FuncId)(Ty:Nat→TypeId):aA:=⟨9,[.dD 2 2],.seq (.ops [⟨some 2,.alloc [.int .i64 0,.int .i64 0],none⟩]) (.seq (.seq (.ops [⟨some 3,.move (.tmp 0),none⟩,⟨some 4,.bR (.tmp 3),none⟩,⟨some 5,.bin .eql (.tmp 4) (.const (.int .i64 0)),none⟩]) (.cond (.tmp 5) (.seq (.ops [⟨some 6,.build [.int .i64 0,.int .i64 0] [],none⟩,⟨none,.store 2 (.tmp 2) (.tmp 6),none⟩]) (.ret)) (.skip))) (.seq (.ops [⟨some 7,.move (.tmp 0),none⟩,⟨some 8,.call (F 8) [.tmp 7],none⟩,⟨none,.store 2 (.tmp 2) (.tmp 8),none⟩]) (.ret)))⟩
def nV (F:Nat→FuncId)(Ty:Nat→TypeId):aA:=⟨5,[.dD 2 2],.seq (.ops [⟨some 2,.alloc [.int .i64 0,.int .i64 0],none⟩]) (.seq (.ops [⟨some 3,.move (.tmp 0),none⟩,⟨some 4,.call (F 13) [.tmp 3,.func (F 4)],none⟩,⟨none,.store 2 (.tmp 2) (.tmp 4),none⟩]) (.ret))⟩
def dB (F:Nat→FuncId)(Ty:Nat→TypeId):aA:=⟨33,[.dD 4 2],.seq (.ops [⟨some 4,.alloc [.int .i64 0,.int .i64 0],none⟩]) (.seq (.seq (.ops [⟨some 7,.move (.tmp 0),none⟩,⟨some 8,.bR (.tmp 7),none⟩,⟨some 9,.bin .lss (.tmp 8) (.const (.int .i64 1)),none⟩]) (.cond (.tmp 9) (.ops [⟨some 10,.p9 (Ty 1) (.const (.string ⟨#[115,108,105,99,101,115,46,77,97,120,70,117,110,99,58,32,101,109,112,116,121,32,108,105,115,116]⟩)),none⟩,⟨none,.never,none⟩]) (.skip))) (.seq (.ops [⟨some 11,.move (.tmp 0),none⟩,⟨some 12,.bg 2 (.tmp 11) (.const (.int .i64 0)),none⟩,⟨some 13,.ak 2 (.tmp 12),none⟩,⟨some 5,.alloc [.int .i64 0,.int .i64 0],none⟩,⟨none,.store 2 (.tmp 5) (.tmp 13),none⟩]) (.seq (.seq (.ops [⟨some 6,.move (.const (.int .i64 1)),none⟩]) (.block 0 (.loop (.seq (.seq (.ops [⟨some 14,.move (.tmp 6),none⟩,⟨some 15,.move (.tmp 0),none⟩,⟨some 16,.bR (.tmp 15),none⟩,⟨some 17,.bin .lss (.tmp 14) (.tmp 16),none⟩]) (.cond (.tmp 17) (.skip) (.exit 0))) (.seq (.block 1 (.seq (.draw [(⟨some 20,.move (.tmp 1),none⟩,[]),(⟨some 21,.move (.tmp 0),none⟩,[]),(⟨some 22,.move (.tmp 6),none⟩,[]),(⟨some 23,.bg 2 (.tmp 21) (.tmp 22),none⟩,[]),(⟨some 24,.ak 2 (.tmp 23),none⟩,[]),(⟨some 25,.ak 2 (.tmp 5),none⟩,[]),(⟨some 26,.nO (.tmp 20) [.tmp 24,.tmp 25],none⟩,[]),(⟨some 27,.bin .gtr (.tmp 26) (.const (.int .i64 0)),none⟩,[])]) (.cond (.tmp 27) (.ops [⟨some 28,.move (.tmp 0),none⟩,⟨some 29,.move (.tmp 6),none⟩,⟨some 30,.bg 2 (.tmp 28) (.tmp 29),none⟩,⟨some 31,.ak 2 (.tmp 30),none⟩,⟨none,.store 2 (.tmp 5) (.tmp 31),none⟩]) (.skip)))) (.ops [⟨some 18,.move (.tmp 6),none⟩,⟨some 19,.bin .add (.tmp 18) (.const (.int .i64 1)),none⟩,⟨some 6,.move (.tmp 19),none⟩])))))) (.seq (.ops [⟨some 32,.ak 2 (.tmp 5),none⟩,⟨none,.store 2 (.tmp 4) (.tmp 32),none⟩]) (.ret)))))⟩
structure qh (c:Ctx):Prop where
 Qr:c.IP (c.F 6)=some (uB c.F c.Ty)
 Sl:c.IP (c.F 9)=some (rf c.F c.Ty)
 IL:c.IP (c.F 8)=some (nV c.F c.Ty)
 lY:c.IP (c.F 13)=some (dB c.F c.Ty)
section
attribute [local simp] J0 J1 J2 J3 J4 J5 J6 J7 J8 J9 Ja Jb Jc Jd Je Jf Jg Jh Ji Jj Jk Jl Jm Jn Jo Jp Jq Jr Js Jt Ju Jv Jw Jx Jy Jz JA JB JC JD JE JF JG JH JI JJ JK JL JM JN JO JP JQ JR JS aQ bZ.kind JT JU JV JW JX JY JZ Y0 Y1 Y2 Y3 Y4 Y5 Y6 Y7 Y8 Y9 Ya Yb Yc Yd Ye Yf Yg Yh Yi Yj Yk Yl Ym Yn Yo Yp Yq jq Yr Ys Yt Yu Yv Yw Yx Yy dZ bA bE Yz YA YB YC YD YE eO YF YG YH YI YJ YK YL YM YN YO YP YQ YR YS YT YU nP bK jR nG bu putAt aa.ah aa.aP aa.aK YV YW YX YY YZ B0 B1 B2 B3 B4 B5 B6 B7 B8 B9 Ba Bb Bc Bd Be Bf Bg Bh Bi Bj Bk Bl Bm Bn Bo Bp
section
def oZ (b:Int×Int):List Value:=[.int .i64 b.1,.int .i64 b.2]
def zu (x y:Int×Int):Int:=lX x.1 x.2 y.1 y.2
def qy {α:Type}(cmp:α→α→Int):List α→α→α
 |[],m=>m
 |r::l,m=>qy cmp l (if 0<cmp r m then r else m)
theorem xx {α:Type}(cmp:α→α→Int): ∀(l l':List α) (m:α),qy cmp (l++l') m=qy cmp l' (qy cmp l m)
 |[],_,_=>rfl
 |r::l,l',m=>xx cmp l l' _
theorem DC {α:Type}(cmp:α→α→Int)(l:List α)(m r:α)(i:Nat)(h:l[i]? =some r):qy cmp (l.take (i+1)) m=if 0<cmp r (qy cmp (l.take i) m)then r else qy cmp (l.take i) m:=by
 rw[List.take_add_one,h,xx];rfl
def tq (l:List (Int×Int)):Int×Int:=match l with
 |[]=>(0,0)
 |x::l=>qy zu l x
section
variable (c:Ctx) (hA:iG c) (hc:qh c) {H:aa} {K:Value→aa→Prop}
include hc
theorem X4 {a n node:Int}(hK: ∀H',H.le H'→K (vB (qx a node).1 (qx a node).2) H'):c.C (c.F MB) [vB a n,.int .i64 node] H K:=by
 refine c.enter hc.Qr rfl ?_
 simp -implicitDefEqProofs [uB,vB]
 unfold qx vB at hK
 by_cases h1:a<0
 ·simp -implicitDefEqProofs [h1]
  simp only[h1,true_or,if_true]at hK
  exact hK _ (by(repeat' first|exact aa.le_refl _|assumption|apply aa.le.alloc|(refine aa.le.set ?_ (by(try simp only[YX,YY]);omega) _)|(refine aa.le.trans ?_ (by assumption))))
 ·by_cases h2:2147483647≤a
  ·simp -implicitDefEqProofs [h1,h2]
   simp only[h1,h2,or_true,if_true]at hK
   exact hK _ (by(repeat' first|exact aa.le_refl _|assumption|apply aa.le.alloc|(refine aa.le.set ?_ (by(try simp only[YX,YY]);omega) _)|(refine aa.le.trans ?_ (by assumption))))
  ·have hw:IntKind.i64.wrap (a+1)=a+1:=wrap64 (by omega) (by omega)
   simp -implicitDefEqProofs [h1,h2,hw]
   simp only[h1,h2,or_self,if_false]at hK
   exact hK _ (by(repeat' first|exact aa.le_refl _|assumption|apply aa.le.alloc|(refine aa.le.set ?_ (by(try simp only[YX,YY]);omega) _)|(refine aa.le.trans ?_ (by assumption))))
theorem Qs {x:Int×Int}{l:List (Int×Int)}{v:Value}{g:FuncId}(hs:qJ H 2 v ((x::l).map oZ))(hl:l.length<4611686018427387904)
 (hg: ∀(p q:Int×Int) (H:aa) (K:Value→aa→Prop),(∀H',H.le H'→K (.int .i64 (zu p q)) H')→c.C g [vB p.1 p.2,vB q.1 q.2] H K)
 (hK: ∀H',H.le H'→K (vB (qy zu l x).1 (qy zu l x).2) H'):c.C (c.F lD) [v,.func (.func g) #[] #[]] H K:=by
 refine c.enter hc.lY rfl ?_
 obtain⟨a,cap,rfl,h2⟩:=hs
 obtain⟨b,o,cs,ro,rfl,hb,hget,hrow⟩:=h2 (by simp)
 have hlen:((x::l).map oZ).length=l.length+1:=by simp
 rw[hlen]
 obtain⟨_,r2,r3⟩:=hrow 0 (oZ x) (by simp)
 simp only[Nat.zero_mul,Nat.add_zero]at r2 r3
 have hbn:b≠H.next:=by omega
 have hl1: ¬ ((l.length:Int)+1<1):=by omega
 have hl0:(0:Int)<(l.length:Int)+1:=by omega
 simp -implicitDefEqProofs [dB,hl1,hl0,hbn,hget,r2,r3,oZ]
 refine aS c.mono (fun n T H'=> ∃(i:Nat) (m:Int×Int),i≤l.length∧n=l.length-i∧m=qy zu (l.take i) x∧T 0 = .slice (some ⟨b,o,none⟩) (l.length+1) cap∧T 1 = .func (.func g) #[] #[] ∧
  T 4 = .pointer (some ⟨H.next,0,none⟩)∧T 5 = .pointer (some ⟨H.next+1,0,none⟩)∧T 6 = .int .i64 (i+1)∧H.next+2≤H'.next∧(∀k,k<H.next→H'.get k=H.get k) ∧
  H'.get H.next=some (.cells [.int .i64 0,.int .i64 0] false)∧H'.get (H.next+1)=some (.cells (oZ m) false)) l.length ?_ ?_
 ·refine⟨0,x,by omega,rfl,rfl,?_⟩
  simp -implicitDefEqProofs [oZ]
  intro k hk
  have e1:k≠H.next:=by omega
  have e2:k≠H.next+1:=by omega
  simp[e1,e2]
 ·rintro n T H' ⟨i,m,hi,rfl,hm,t0,t1,t4,t5,t6,hn,hold,g4,g5⟩
  have hb':=hold b hb
  by_cases hil:i<l.length
  ·have hc1:(i:Int)+1<(l.length:Int)+1:=by omega
   have hc0:(0:Int)≤(i:Int)+1:=by omega
   have hct:((i:Int)+1).toNat=i+1:=by omega
   obtain⟨_,s2,s3⟩:=hrow (i+1) (oZ l[i]) (by simp[hil])
   simp -implicitDefEqProofs [t0,t1,t4,t5,t6,hc1,hc0,hct,hb',hget,s2,s3,g5,oZ]
   refine aI c.mono (hg l[i] m _ _ fun H1 h1=> ?_)
   have k5:=(h1.get (H.next+1) (by omega)).trans g5
   have k4:=(h1.get H.next (by omega)).trans g4
   have kb:=(h1.get b (by omega)).trans hb'
   have hw:IntKind.i64.wrap ((i:Int)+1+1)=(i:Int)+1+1:=wrap64 (by omega) (by omega)
   have hmt:=DC zu l x l[i] i (by simp[hil])
   rw[←hm]at hmt
   by_cases hcmp:0<zu l[i] m
   ·simp -implicitDefEqProofs [t0,t1,t4,t5,t6,hc1,hc0,hct,hb',hget,s2,s3,k5,k4,kb,oZ,hcmp,hw]
    refine⟨l.length-(i+1),by omega,i+1,by omega,rfl,by simp,by have:=h1.next;omega,fun k hk=> ?_,?_⟩
    ·rw[if_neg (by omega),h1.get k (by omega),hold k hk]
    ·rw[hmt,if_pos hcmp];exact⟨rfl,rfl⟩
   ·simp -implicitDefEqProofs [t0,t1,t4,t5,t6,hc1,hc0,hct,hb',hget,s2,s3,k5,k4,kb,oZ,hcmp,hw]
    refine⟨l.length-(i+1),by omega,i+1,by omega,rfl,by simp,by have:=h1.next;omega,fun k hk=> ?_,?_⟩
    ·rw[h1.get k (by omega),hold k hk]
    ·rw[hmt,if_neg hcmp];exact⟨rfl,rfl⟩
  ·have hie:i=l.length:=by omega
   subst hie
   rw[List.take_length]at hm
   simp -implicitDefEqProofs [t0,t1,t4,t5,t6,g5,g4,oZ]
   rw[←hm]at hK
   refine hK _ ⟨by simp only[YY];omega,fun k hk=> ?_⟩
   rw[YW,if_neg (by omega)];exact hold k hk
include hA
theorem Qt {x:Int×Int}{l:List (Int×Int)}{v:Value}(hs:qJ H 2 v ((x::l).map oZ))(hl:l.length<4611686018427387904)(hK: ∀H',H.le H'→K (vB (qy zu l x).1 (qy zu l x).2) H'):
 c.C (c.F EX) [v] H K:=by
 refine c.enter hc.IL rfl ?_
 simp -implicitDefEqProofs [nV]
 refine av (Qs c hc (hs.le (H.aj _)) hl (fun p q H K h=>Lv c hA h) fun H1 h1=> ?_)
 have k2:=(h1.get H.next (by simp[YX])).trans (iC H _)
 simp -implicitDefEqProofs [k2,vB]
 refine hK _ ⟨by have:=h1.next;simp only[YX]at this;simp only[YY];omega,fun k hk=> ?_⟩
 rw[YW,if_neg (by omega),h1.get k (by simp only[YX];omega),YV,if_neg (by omega)]
theorem qar {l:List (Int×Int)}{v:Value}(hs:qJ H 2 v (l.map oZ))(hl:l.length<4611686018427387904)(hK: ∀H',H.le H'→K (vB (tq l).1 (tq l).2) H'):c.C (c.F Ou) [v] H K:=by
 refine c.enter hc.Sl rfl ?_
 cases l with
 |nil=>
  obtain⟨a,cap,rfl,_⟩:=hs
  simp -implicitDefEqProofs [rf]
  exact hK _ (by(repeat' first|exact aa.le_refl _|assumption|apply aa.le.alloc|(refine aa.le.set ?_ (by(try simp only[YX,YY]);omega) _)|(refine aa.le.trans ?_ (by assumption))))
 |cons x l=>
  have hs':=hs
  obtain⟨a,cap,rfl,_⟩:=hs
  have h0:((l.length:Int)+1=0)=False:=by simp;omega
  simp -implicitDefEqProofs [rf,h0]
  refine av (Qt c hA hc (by simpa using hs'.le (H.aj _)) (by simp at hl;omega) fun H1 h1=> ?_)
  have k2:=(h1.get H.next (by simp[YX])).trans (iC H _)
  simp -implicitDefEqProofs [k2,vB]
  refine hK _ ⟨by have:=h1.next;simp only[YX]at this;simp only[YY];omega,fun k hk=> ?_⟩
  rw[YW,if_neg (by omega),h1.get k (by simp only[YX];omega),YV,if_neg (by omega)]
end
end
end
abbrev Lx:Nat:=275
abbrev uD:Nat:=276
abbrev tu:Nat:=277
abbrev rq:Nat:=278
abbrev tC:Nat:=279
abbrev uE:Nat:=280
abbrev uF:Nat:=281
abbrev ru:Nat:=282
abbrev uG:Nat:=283
def rZ (F:Nat→FuncId)(Ty:Nat→TypeId):aA:=⟨21,[.tmp 4],.seq (.ops [⟨some 4,.move (.const (.pointer none)),none⟩]) (.seq (.seq (.ops [⟨some 5,.move (.tmp 0),none⟩,⟨some 6,.call (F 7) [.tmp 5],none⟩,⟨some 7,.bin .eql (.tmp 6) (.const (.int .i64 0)),none⟩,⟨some 8,.move (.tmp 7),none⟩,⟨some 9,.move (.tmp 1),some (8,false)⟩,⟨some 10,.bin .lss (.tmp 9) (.const (.int .i64 0)),some (8,false)⟩,⟨some 11,.pick (.tmp 8) (.const (.bool true)) (.tmp 10),none⟩,⟨some 12,.move (.tmp 11),none⟩,⟨some 13,.move (.tmp 1),some (12,false)⟩,⟨some 14,.move (.tmp 0),some (12,false)⟩,⟨some 15,.bin .geq (.tmp 13) (.tmp 14),some (12,false)⟩,⟨some 16,.pick (.tmp 12) (.const (.bool true)) (.tmp 15),none⟩]) (.cond (.tmp 16) (.seq (.ops [⟨some 4,.move (.const (.pointer none)),none⟩]) (.ret)) (.skip))) (.seq (.ops [⟨some 17,.move (.tmp 0),none⟩,⟨some 18,.move (.tmp 1),none⟩,⟨some 19,.build [.int .i64 0,.int .i64 0,.int .i64 0,.int .i64 0,.int .i64 0,.int .i64 0,.int .i64 0,.bool false,.bool false,.bool false,.bool false,.bool false,.bool false,.bool false,.bool false,.map none] [((0,1),.tmp 17),((1,1),.tmp 18)],none⟩,⟨some 20,.box (.tmp 19),none⟩,⟨some 4,.move (.tmp 20),none⟩]) (.ret)))⟩
def iO (F:Nat→FuncId)(Ty:Nat→TypeId):aA:=⟨59,[.dD 6 2,.tmp 7],.seq (.ops [⟨some 4,.box (.tmp 1),none⟩,⟨some 6,.alloc [.int .i64 0,.int .i64 0],none⟩,⟨some 7,.move (.const (.int .i64 0)),none⟩]) (.seq (.seq (.ops [⟨some 10,.move (.tmp 0),none⟩,⟨some 11,.fC 0 false (.tmp 10),none⟩,⟨some 12,.move (.tmp 11),none⟩,⟨some 13,.ak 2 (.tmp 4),some (12,false)⟩,⟨some 14,.call (F 5) [.tmp 13],some (12,false)⟩,⟨some 15,.un .not (.tmp 14),some (12,false)⟩,⟨some 16,.pick (.tmp 12) (.const (.bool true)) (.tmp 15),none⟩,⟨some 17,.move (.tmp 16),none⟩,⟨some 18,.move (.tmp 2),some (17,false)⟩,⟨some 19,.bin .lss (.tmp 18) (.const (.int .i64 0)),some (17,false)⟩,⟨some 20,.pick (.tmp 17) (.const (.bool true)) (.tmp 19),none⟩,⟨some 21,.move (.tmp 20),none⟩,⟨some 22,.move (.tmp 2),some (21,false)⟩,⟨some 23,.bin .geq (.tmp 22) (.const (.int .i64 1024)),some (21,false)⟩,⟨some 24,.pick (.tmp 21) (.const (.bool true)) (.tmp 23),none⟩]) (.cond (.tmp 24) (.seq (.ops [⟨some 25,.build [.int .i64 0,.int .i64 0] [],none⟩,⟨none,.store 2 (.tmp 6) (.tmp 25),none⟩,⟨some 7,.move (.const (.int .i64 1)),none⟩]) (.ret)) (.skip))) (.seq (.draw [(⟨some 26,.ak 2 (.tmp 4),none⟩,[]),(⟨some 27,.move (.tmp 0),none⟩,[]),(⟨some 28,.nilCheck (.tmp 27),none⟩,[]),(⟨some 29,.fieldAddr 2 (.tmp 28),none⟩,[]),(⟨some 30,.ak 2 (.tmp 29),none⟩,[]),(⟨some 31,.buildSlice 2 [.int .i64 0,.int .i64 0,.int .i64 0,.int .i64 0] [((0,2),.tmp 26),((2,2),.tmp 30)],none⟩,[]),(⟨some 8,.alloc [.int .i64 0,.int .i64 0],none⟩,[]),(⟨some 32,.call (F 9) [.tmp 31],none⟩,[]),(⟨none,.store 2 (.tmp 8) (.tmp 32),none⟩,[])]) (.seq (.seq (.ops [⟨some 33,.fieldAddr 0 (.tmp 8),none⟩,⟨some 34,.ah (.tmp 33),none⟩,⟨some 35,.bin .geq (.tmp 34) (.const (.int .i64 2147483647)),none⟩]) (.cond (.tmp 35) (.seq (.ops [⟨some 36,.build [.int .i64 0,.int .i64 0] [],none⟩,⟨none,.store 2 (.tmp 6) (.tmp 36),none⟩,⟨some 7,.move (.const (.int .i64 5)),none⟩]) (.ret)) (.skip))) (.seq (.draw [(⟨some 37,.ak 2 (.tmp 8),none⟩,[]),(⟨some 38,.move (.tmp 0),none⟩,[]),(⟨some 39,.nilCheck (.tmp 38),none⟩,[]),(⟨some 40,.fieldAddr 1 (.tmp 39),none⟩,[]),(⟨some 41,.ah (.tmp 40),none⟩,[]),(⟨some 9,.alloc [.int .i64 0,.int .i64 0],none⟩,[]),(⟨some 42,.call (F 6) [.tmp 37,.tmp 41],none⟩,[]),(⟨none,.store 2 (.tmp 9) (.tmp 42),none⟩,[])]) (.seq (.draw [(⟨some 43,.move (.tmp 0),none⟩,[]),(⟨some 44,.move (.tmp 0),none⟩,[]),(⟨some 45,.nilCheck (.tmp 44),none⟩,[]),(⟨some 46,.fieldAddr 0 (.tmp 45),none⟩,[]),(⟨some 47,.ah (.tmp 46),none⟩,[]),(⟨some 48,.move (.tmp 0),none⟩,[]),(⟨some 49,.nilCheck (.tmp 48),none⟩,[]),(⟨some 50,.fieldAddr 1 (.tmp 49),none⟩,[]),(⟨some 51,.ah (.tmp 50),none⟩,[]),(⟨some 52,.ak 2 (.tmp 9),none⟩,[]),(⟨some 53,.move (.tmp 2),none⟩,[]),(⟨some 54,.move (.tmp 2),none⟩,[]),(⟨some 55,.mkMap,none⟩,[]),(⟨some 56,.build [.int .i64 0,.int .i64 0,.int .i64 0,.int .i64 0,.int .i64 0,.int .i64 0,.int .i64 0,.bool false,.bool false,.bool false,.bool false,.bool false,.bool false,.bool false,.bool false,.map none] [((0,1),.tmp 47),((1,1),.tmp 51),((2,2),.tmp 52),((4,1),.const (.int .i64 1)),((5,1),.tmp 53),((6,1),.tmp 54),((15,1),.tmp 55)],none⟩,[]),(⟨some 57,.nilCheck (.tmp 43),none⟩,[]),(⟨none,.store 16 (.tmp 57) (.tmp 56),none⟩,[])]) (.seq (.ops [⟨some 58,.ak 2 (.tmp 9),none⟩,⟨none,.store 2 (.tmp 6) (.tmp 58),none⟩,⟨some 7,.move (.const (.int .i64 0)),none⟩]) (.ret)))))))⟩
def dJ (F:Nat→FuncId)(Ty:Nat→TypeId):aA:=⟨68,[],.seq (.ops [⟨some 3,.box (.tmp 1),none⟩]) (.seq (.seq (.draw [(⟨some 6,.fieldAddr 0 (.tmp 3),none⟩,[]),(⟨some 7,.ah (.tmp 6),none⟩,[]),(⟨some 8,.move (.tmp 0),none⟩,[]),(⟨some 9,.nilCheck (.tmp 8),none⟩,[]),(⟨some 10,.fieldAddr 5 (.tmp 9),none⟩,[]),(⟨some 11,.ah (.tmp 10),none⟩,[]),(⟨some 12,.bin .lss (.tmp 7) (.tmp 11),none⟩,[]),(⟨some 13,.move (.tmp 12),none⟩,[]),(⟨some 14,.fieldAddr 0 (.tmp 3),some (13,false)⟩,[]),(⟨some 15,.ah (.tmp 14),some (13,false)⟩,[]),(⟨some 16,.bin .geq (.tmp 15) (.const (.int .i64 1024)),some (13,false)⟩,[]),(⟨some 17,.pick (.tmp 13) (.const (.bool true)) (.tmp 16),none⟩,[]),(⟨some 18,.move (.tmp 17),none⟩,[]),(⟨some 19,.fieldAddr 1 (.tmp 3),some (18,false)⟩,[]),(⟨some 20,.ak 2 (.tmp 19),some (18,false)⟩,[]),(⟨some 21,.call (F 5) [.tmp 20],some (18,false)⟩,[]),(⟨some 22,.un .not (.tmp 21),some (18,false)⟩,[]),(⟨some 23,.pick (.tmp 18) (.const (.bool true)) (.tmp 22),none⟩,[]),(⟨some 24,.move (.tmp 23),none⟩,[]),(⟨some 25,.fieldAddr 3 (.tmp 3),some (24,false)⟩,[]),(⟨some 26,.ah (.tmp 25),some (24,false)⟩,[]),(⟨some 27,.pI (.tmp 26),some (24,false)⟩,[]),(⟨some 28,.bin .gtr (.tmp 27) (.const (.int .i64 4096)),some (24,false)⟩,[]),(⟨some 29,.pick (.tmp 24) (.const (.bool true)) (.tmp 28),none⟩,[])]) (.cond (.tmp 29) (.ret) (.skip))) (.seq (.draw [(⟨some 30,.move (.tmp 0),none⟩,[]),(⟨some 31,.move (.tmp 0),none⟩,[]),(⟨some 32,.nilCheck (.tmp 31),none⟩,[]),(⟨some 33,.fieldAddr 6 (.tmp 32),none⟩,[]),(⟨some 34,.ah (.tmp 33),none⟩,[]),(⟨some 35,.fieldAddr 0 (.tmp 3),none⟩,[]),(⟨some 36,.ah (.tmp 35),none⟩,[]),(⟨some 37,.bin .add (.tmp 36) (.const (.int .i64 1)),none⟩,[]),(⟨some 38,.PK true (.tmp 34) (.tmp 37),none⟩,[]),(⟨some 39,.nilCheck (.tmp 30),none⟩,[]),(⟨some 40,.fieldAddr 6 (.tmp 39),none⟩,[]),(⟨none,.store 1 (.tmp 40) (.tmp 38),none⟩,[])]) (.seq (.draw [(⟨some 42,.move (.tmp 0),none⟩,[]),(⟨some 43,.nilCheck (.tmp 42),none⟩,[]),(⟨some 44,.fieldAddr 15 (.tmp 43),none⟩,[]),(⟨some 45,.ah (.tmp 44),none⟩,[]),(⟨some 46,.fieldAddr 0 (.tmp 3),none⟩,[]),(⟨some 47,.ah (.tmp 46),none⟩,[]),(⟨some 48,.lookup (Ty 2) (.agg #[.int .i64 0,.int .i64 0,.int .i64 0,.string ⟨#[]⟩]) true (.tmp 45) (.tmp 47),none⟩,[]),(⟨some 41,.move (.tmp 48),none⟩,[]),(⟨some 49,.extract (.tmp 41) 0,none⟩,[]),(⟨some 50,.extract (.tmp 41) 1,none⟩,[]),(⟨some 4,.alloc [.int .i64 0,.int .i64 0,.int .i64 0,.string ⟨#[]⟩],none⟩,[]),(⟨none,.store 4 (.tmp 4) (.tmp 49),none⟩,[]),(⟨some 5,.move (.tmp 50),none⟩,[])]) (.seq (.ops [⟨some 51,.move (.tmp 5),none⟩,⟨some 52,.un .not (.tmp 51),none⟩,⟨some 53,.move (.tmp 52),none⟩,⟨some 54,.fieldAddr 1 (.tmp 3),some (53,false)⟩,⟨some 55,.ak 2 (.tmp 54),some (53,false)⟩,⟨some 56,.fieldAddr 1 (.tmp 4),some (53,false)⟩,⟨some 57,.ak 2 (.tmp 56),some (53,false)⟩,⟨some 58,.call (F 4) [.tmp 55,.tmp 57],some (53,false)⟩,⟨some 59,.bin .gtr (.tmp 58) (.const (.int .i64 0)),some (53,false)⟩,⟨some 60,.pick (.tmp 53) (.const (.bool true)) (.tmp 59),none⟩]) (.cond (.tmp 60) (.draw [(⟨some 61,.move (.tmp 0),none⟩,[]),(⟨some 62,.nilCheck (.tmp 61),none⟩,[]),(⟨some 63,.fieldAddr 15 (.tmp 62),none⟩,[]),(⟨some 64,.ah (.tmp 63),none⟩,[]),(⟨some 65,.fieldAddr 0 (.tmp 3),none⟩,[]),(⟨some 66,.ah (.tmp 65),none⟩,[]),(⟨some 67,.ak 4 (.tmp 3),none⟩,[]),(⟨none,.mapUpdate (Ty 2) (.tmp 64) (.tmp 66) (.tmp 67),none⟩,[])]) (.skip))))))⟩
def aX (F:Nat→FuncId)(Ty:Nat→TypeId):aA:=⟨87,[.tmp 8],.seq (.ops [⟨some 6,.box (.tmp 2),none⟩,⟨some 8,.move (.const (.bool false)),none⟩]) (.seq (.seq (.draw [(⟨some 14,.move (.tmp 0),none⟩,[]),(⟨some 15,.fC 0 false (.tmp 14),none⟩,[]),(⟨some 16,.move (.tmp 15),none⟩,[]),(⟨some 17,.move (.tmp 0),some (16,false)⟩,[]),(⟨some 18,.nilCheck (.tmp 17),some (16,false)⟩,[]),(⟨some 19,.fieldAddr 4 (.tmp 18),some (16,false)⟩,[]),(⟨some 20,.ah (.tmp 19),some (16,false)⟩,[]),(⟨some 21,.bin .neq (.tmp 20) (.const (.int .i64 1)),some (16,false)⟩,[]),(⟨some 22,.pick (.tmp 16) (.const (.bool true)) (.tmp 21),none⟩,[]),(⟨some 23,.move (.tmp 22),none⟩,[]),(⟨some 24,.move (.tmp 1),some (23,false)⟩,[]),(⟨some 25,.bin .lss (.tmp 24) (.const (.int .i64 0)),some (23,false)⟩,[]),(⟨some 26,.pick (.tmp 23) (.const (.bool true)) (.tmp 25),none⟩,[]),(⟨some 27,.move (.tmp 26),none⟩,[]),(⟨some 28,.move (.tmp 1),some (27,false)⟩,[]),(⟨some 29,.move (.tmp 0),some (27,false)⟩,[]),(⟨some 30,.nilCheck (.tmp 29),some (27,false)⟩,[]),(⟨some 31,.fieldAddr 0 (.tmp 30),some (27,false)⟩,[]),(⟨some 32,.ah (.tmp 31),some (27,false)⟩,[]),(⟨some 33,.bin .geq (.tmp 28) (.tmp 32),some (27,false)⟩,[]),(⟨some 34,.pick (.tmp 27) (.const (.bool true)) (.tmp 33),none⟩,[]),(⟨some 35,.move (.tmp 34),none⟩,[]),(⟨some 36,.ak 2 (.tmp 6),some (35,false)⟩,[]),(⟨some 37,.move (.tmp 0),some (35,false)⟩,[]),(⟨some 38,.nilCheck (.tmp 37),some (35,false)⟩,[]),(⟨some 39,.fieldAddr 2 (.tmp 38),some (35,false)⟩,[]),(⟨some 40,.ak 2 (.tmp 39),some (35,false)⟩,[]),(⟨some 41,.eqv true [.i .i64,.i .i64] (.tmp 36) (.tmp 40),some (35,false)⟩,[]),(⟨some 42,.pick (.tmp 35) (.const (.bool true)) (.tmp 41),none⟩,[]),(⟨some 43,.move (.tmp 42),none⟩,[]),(⟨some 44,.move (.tmp 0),some (43,false)⟩,[]),(⟨some 45,.move (.tmp 1),some (43,false)⟩,[]),(⟨some 46,.nilCheck (.tmp 44),some (43,false)⟩,[]),(⟨some 47,.fieldAddr 8 (.tmp 46),some (43,false)⟩,[]),(⟨some 48,.yZ 7 1 (.tmp 47) (.tmp 45),some (43,false)⟩,[]),(⟨some 49,.ah (.tmp 48),some (43,false)⟩,[]),(⟨some 50,.pick (.tmp 43) (.const (.bool true)) (.tmp 49),none⟩,[])]) (.cond (.tmp 50) (.seq (.ops [⟨some 8,.move (.const (.bool false)),none⟩]) (.ret)) (.skip))) (.seq (.ops [⟨some 51,.move (.tmp 0),none⟩,⟨some 52,.move (.tmp 1),none⟩,⟨some 53,.nilCheck (.tmp 51),none⟩,⟨some 54,.fieldAddr 8 (.tmp 53),none⟩,⟨some 55,.yZ 7 1 (.tmp 54) (.tmp 52),none⟩,⟨none,.store 1 (.tmp 55) (.const (.bool true)),none⟩]) (.seq (.seq (.ops [⟨some 56,.move (.tmp 3),none⟩,⟨some 57,.bR (.tmp 56),none⟩,⟨some 58,.move (.const (.int .i64 0)),none⟩]) (.block 0 (.loop (.seq (.ops [⟨some 59,.bin .lss (.tmp 58) (.tmp 57),none⟩]) (.seq (.cond (.tmp 59) (.skip) (.exit 0)) (.seq (.block 1 (.seq (.ops [⟨some 60,.bg 4 (.tmp 56) (.tmp 58),none⟩,⟨some 61,.ak 4 (.tmp 60),none⟩,⟨some 10,.alloc [.int .i64 0,.int .i64 0,.int .i64 0,.string ⟨#[]⟩],none⟩,⟨none,.store 4 (.tmp 10) (.tmp 61),none⟩]) (.ops [⟨some 62,.move (.tmp 0),none⟩,⟨some 63,.ak 4 (.tmp 10),none⟩,⟨some 64,.call (F 277) [.tmp 62,.tmp 63],none⟩]))) (.ops [⟨some 65,.bin .add (.tmp 58) (.const (.int .i64 1)),none⟩,⟨some 58,.move (.tmp 65),none⟩]))))))) (.seq (.ops [⟨some 11,.move (.const (.int .i64 0)),none⟩]) (.seq (.seq (.ops [⟨some 66,.move (.tmp 0),none⟩,⟨some 67,.nilCheck (.tmp 66),none⟩,⟨some 68,.fieldAddr 8 (.tmp 67),none⟩,⟨some 69,.ak 7 (.tmp 68),none⟩,⟨some 70,.move (.const (.int .i64 0)),none⟩]) (.block 2 (.loop (.seq (.ops [⟨some 71,.bin .lss (.tmp 70) (.const (.int .i64 7)),none⟩]) (.seq (.cond (.tmp 71) (.skip) (.exit 2)) (.seq (.block 3 (.seq (.ops [⟨some 72,.Kj 7 (.tmp 69) (.tmp 70),none⟩,⟨some 13,.move (.tmp 72),none⟩]) (.seq (.ops [⟨some 73,.move (.tmp 13),none⟩]) (.cond (.tmp 73) (.ops [⟨some 74,.move (.tmp 11),none⟩,⟨some 75,.bin .add (.tmp 74) (.const (.int .i64 1)),none⟩,⟨some 11,.move (.tmp 75),none⟩]) (.skip))))) (.ops [⟨some 76,.bin .add (.tmp 70) (.const (.int .i64 1)),none⟩,⟨some 70,.move (.tmp 76),none⟩]))))))) (.seq (.seq (.ops [⟨some 77,.move (.tmp 11),none⟩,⟨some 78,.move (.tmp 0),none⟩,⟨some 79,.nilCheck (.tmp 78),none⟩,⟨some 80,.fieldAddr 0 (.tmp 79),none⟩,⟨some 81,.ah (.tmp 80),none⟩,⟨some 82,.call (F 7) [.tmp 81],none⟩,⟨some 83,.bin .lss (.tmp 77) (.tmp 82),none⟩]) (.cond (.tmp 83) (.seq (.ops [⟨some 8,.move (.const (.bool false)),none⟩]) (.ret)) (.skip))) (.seq (.ops [⟨some 84,.move (.tmp 0),none⟩,⟨some 85,.nilCheck (.tmp 84),none⟩,⟨some 86,.fieldAddr 4 (.tmp 85),none⟩,⟨none,.store 1 (.tmp 86) (.const (.int .i64 2)),none⟩]) (.seq (.ops [⟨some 8,.move (.const (.bool true)),none⟩]) (.ret)))))))))⟩
def gU (F:Nat→FuncId)(Ty:Nat→TypeId):aA:=⟨12,[.tmp 2],.seq (.ops [⟨some 2,.move (.const (.bool false)),none⟩]) (.seq (.ops [⟨some 3,.move (.tmp 0),none⟩,⟨some 4,.fC 0 true (.tmp 3),none⟩,⟨some 5,.move (.tmp 4),none⟩,⟨some 6,.move (.tmp 0),some (5,true)⟩,⟨some 7,.nilCheck (.tmp 6),some (5,true)⟩,⟨some 8,.fieldAddr 4 (.tmp 7),some (5,true)⟩,⟨some 9,.ah (.tmp 8),some (5,true)⟩,⟨some 10,.bin .eql (.tmp 9) (.const (.int .i64 2)),some (5,true)⟩,⟨some 11,.pick (.tmp 5) (.tmp 10) (.const (.bool false)),none⟩,⟨some 2,.move (.tmp 11),none⟩]) (.ret))⟩
def iP (F:Nat→FuncId)(Ty:Nat→TypeId):aA:=⟨14,[.dD 6 4],.seq (.ops [⟨some 6,.alloc [.int .i64 0,.int .i64 0,.int .i64 0,.string ⟨#[]⟩],none⟩]) (.seq (.ops [⟨some 7,.move (.tmp 1),none⟩,⟨some 8,.move (.tmp 0),none⟩,⟨some 9,.nilCheck (.tmp 8),none⟩,⟨some 10,.fieldAddr 2 (.tmp 9),none⟩,⟨some 11,.ak 2 (.tmp 10),none⟩,⟨some 12,.move (.tmp 2),none⟩,⟨some 13,.build [.int .i64 0,.int .i64 0,.int .i64 0,.string ⟨#[]⟩] [((0,1),.tmp 7),((1,2),.tmp 11),((3,1),.tmp 12)],none⟩,⟨none,.store 4 (.tmp 6) (.tmp 13),none⟩]) (.ret))⟩
def iQ (F:Nat→FuncId)(Ty:Nat→TypeId):aA:=⟨59,[.tmp 2],.seq (.ops [⟨some 2,.move (.const (.slice none 0 0)),none⟩]) (.seq (.seq (.ops [⟨some 7,.move (.tmp 0),none⟩,⟨some 8,.call (F 279) [.tmp 7],none⟩,⟨some 9,.un .not (.tmp 8),none⟩,⟨some 10,.move (.tmp 9),none⟩,⟨some 11,.move (.tmp 0),some (10,false)⟩,⟨some 12,.nilCheck (.tmp 11),some (10,false)⟩,⟨some 13,.fieldAddr 7 (.tmp 12),some (10,false)⟩,⟨some 14,.ah (.tmp 13),some (10,false)⟩,⟨some 15,.pick (.tmp 10) (.const (.bool true)) (.tmp 14),none⟩]) (.cond (.tmp 15) (.seq (.ops [⟨some 2,.move (.const (.slice none 0 0)),none⟩]) (.ret)) (.skip))) (.seq (.ops [⟨some 16,.move (.tmp 0),none⟩,⟨some 17,.nilCheck (.tmp 16),none⟩,⟨some 18,.fieldAddr 7 (.tmp 17),none⟩,⟨none,.store 1 (.tmp 18) (.const (.bool true)),none⟩]) (.seq (.ops [⟨some 19,.move (.tmp 0),none⟩,⟨some 20,.nilCheck (.tmp 19),none⟩,⟨some 21,.fieldAddr 5 (.tmp 20),none⟩,⟨some 22,.ah (.tmp 21),none⟩,⟨some 3,.move (.tmp 22),none⟩]) (.seq (.seq (.ops [⟨some 23,.move (.tmp 0),none⟩,⟨some 24,.nilCheck (.tmp 23),none⟩,⟨some 25,.fieldAddr 15 (.tmp 24),none⟩,⟨some 26,.ah (.tmp 25),none⟩,⟨some 27,.rangeMap (.tmp 26),none⟩]) (.block 0 (.loop (.seq (.ops [⟨some 28,.wQ (.tmp 27),none⟩,⟨some 29,.extract (.tmp 28) 0,none⟩]) (.seq (.cond (.tmp 29) (.skip) (.exit 0)) (.block 1 (.seq (.ops [⟨some 30,.rP (.tmp 27),none⟩,⟨some 31,.extract (.tmp 30) 0,none⟩,⟨some 4,.move (.tmp 31),none⟩]) (.ops [⟨some 32,.move (.tmp 3),none⟩,⟨some 33,.move (.tmp 4),none⟩,⟨some 34,.bin .add (.tmp 33) (.const (.int .i64 1)),none⟩,⟨some 35,.PK true (.tmp 32) (.tmp 34),none⟩,⟨some 3,.move (.tmp 35),none⟩])))))))) (.seq (.ops [⟨some 5,.move (.const (.slice none 0 0)),none⟩]) (.seq (.seq (.ops [⟨some 36,.move (.tmp 0),none⟩,⟨some 37,.nilCheck (.tmp 36),none⟩,⟨some 38,.fieldAddr 5 (.tmp 37),none⟩,⟨some 39,.ah (.tmp 38),none⟩,⟨some 6,.move (.tmp 39),none⟩]) (.block 2 (.loop (.seq (.seq (.ops [⟨some 40,.move (.tmp 6),none⟩,⟨some 41,.move (.tmp 3),none⟩,⟨some 42,.bin .lss (.tmp 40) (.tmp 41),none⟩]) (.cond (.tmp 42) (.skip) (.exit 2))) (.seq (.block 3 (.ops [⟨some 45,.move (.tmp 5),none⟩,⟨some 46,.move (.tmp 0),none⟩,⟨some 47,.move (.tmp 6),none⟩,⟨some 48,.move (.tmp 0),none⟩,⟨some 49,.nilCheck (.tmp 48),none⟩,⟨some 50,.fieldAddr 15 (.tmp 49),none⟩,⟨some 51,.ah (.tmp 50),none⟩,⟨some 52,.move (.tmp 6),none⟩,⟨some 53,.lookup (Ty 2) (.agg #[.int .i64 0,.int .i64 0,.int .i64 0,.string ⟨#[]⟩]) false (.tmp 51) (.tmp 52),none⟩,⟨some 54,.Ti 3 (.tmp 53),none⟩,⟨some 55,.call (F 280) [.tmp 46,.tmp 47,.tmp 54],none⟩,⟨some 56,.buildSlice 1 [.int .i64 0,.int .i64 0,.int .i64 0,.string ⟨#[]⟩] [((0,4),.tmp 55)],none⟩,⟨some 57,.append 4 40 (.tmp 45) (.tmp 56),none⟩,⟨some 5,.move (.tmp 57),none⟩])) (.ops [⟨some 43,.move (.tmp 6),none⟩,⟨some 44,.bin .add (.tmp 43) (.const (.int .i64 1)),none⟩,⟨some 6,.move (.tmp 44),none⟩])))))) (.seq (.ops [⟨some 58,.move (.tmp 5),none⟩,⟨some 2,.move (.tmp 58),none⟩]) (.ret))))))))⟩
def bV (F:Nat→FuncId)(Ty:Nat→TypeId):aA:=⟨44,[.dD 4 4,.tmp 5],.seq (.ops [⟨some 4,.alloc [.int .i64 0,.int .i64 0,.int .i64 0,.string ⟨#[]⟩],none⟩,⟨some 5,.move (.const (.int .i64 0)),none⟩]) (.seq (.block 0 (.seq (.ops [⟨some 7,.move (.tmp 0),none⟩,⟨some 8,.fC 0 false (.tmp 7),none⟩,⟨some 6,.move (.tmp 8),none⟩]) (.cond (.tmp 6) (.seq (.ops [⟨some 9,.build [.int .i64 0,.int .i64 0,.int .i64 0,.string ⟨#[]⟩] [],none⟩,⟨none,.store 4 (.tmp 4) (.tmp 9),none⟩,⟨some 5,.move (.const (.int .i64 1)),none⟩]) (.ret)) (.seq (.ops [⟨some 11,.move (.tmp 1),none⟩,⟨some 12,.pI (.tmp 11),none⟩,⟨some 13,.bin .gtr (.tmp 12) (.const (.int .i64 4096)),none⟩,⟨some 10,.move (.tmp 13),none⟩]) (.cond (.tmp 10) (.seq (.ops [⟨some 14,.build [.int .i64 0,.int .i64 0,.int .i64 0,.string ⟨#[]⟩] [],none⟩,⟨none,.store 4 (.tmp 4) (.tmp 14),none⟩,⟨some 5,.move (.const (.int .i64 2)),none⟩]) (.ret)) (.seq (.ops [⟨some 16,.move (.tmp 0),none⟩,⟨some 17,.nilCheck (.tmp 16),none⟩,⟨some 18,.fieldAddr 6 (.tmp 17),none⟩,⟨some 19,.ah (.tmp 18),none⟩,⟨some 20,.bin .geq (.tmp 19) (.const (.int .i64 1024)),none⟩,⟨some 15,.move (.tmp 20),none⟩]) (.cond (.tmp 15) (.seq (.ops [⟨some 21,.build [.int .i64 0,.int .i64 0,.int .i64 0,.string ⟨#[]⟩] [],none⟩,⟨none,.store 4 (.tmp 4) (.tmp 21),none⟩,⟨some 5,.move (.const (.int .i64 5)),none⟩]) (.ret)) (.seq (.ops [⟨some 23,.move (.tmp 0),none⟩,⟨some 24,.nilCheck (.tmp 23),none⟩,⟨some 25,.fieldAddr 4 (.tmp 24),none⟩,⟨some 26,.ah (.tmp 25),none⟩,⟨some 27,.bin .neq (.tmp 26) (.const (.int .i64 2)),none⟩,⟨some 22,.move (.tmp 27),none⟩]) (.cond (.tmp 22) (.seq (.ops [⟨some 28,.build [.int .i64 0,.int .i64 0,.int .i64 0,.string ⟨#[]⟩] [],none⟩,⟨none,.store 4 (.tmp 4) (.tmp 28),none⟩,⟨some 5,.move (.const (.int .i64 16)),none⟩]) (.ret)) (.skip)))))))))) (.seq (.ops [⟨some 29,.move (.tmp 0),none⟩,⟨some 30,.nilCheck (.tmp 29),none⟩,⟨some 31,.fieldAddr 6 (.tmp 30),none⟩,⟨some 32,.ah (.tmp 31),none⟩,⟨some 33,.bin .add (.tmp 32) (.const (.int .i64 1)),none⟩,⟨some 34,.nilCheck (.tmp 29),none⟩,⟨some 35,.fieldAddr 6 (.tmp 34),none⟩,⟨none,.store 1 (.tmp 35) (.tmp 33),none⟩]) (.seq (.ops [⟨some 36,.move (.tmp 0),none⟩,⟨some 37,.move (.tmp 0),none⟩,⟨some 38,.nilCheck (.tmp 37),none⟩,⟨some 39,.fieldAddr 6 (.tmp 38),none⟩,⟨some 40,.ah (.tmp 39),none⟩,⟨some 41,.bin .sub (.tmp 40) (.const (.int .i64 1)),none⟩,⟨some 42,.move (.tmp 1),none⟩,⟨some 43,.call (F 280) [.tmp 36,.tmp 41,.tmp 42],none⟩,⟨none,.store 4 (.tmp 4) (.tmp 43),none⟩,⟨some 5,.move (.const (.int .i64 0)),none⟩]) (.ret))))⟩
def iT (F:Nat→FuncId)(Ty:Nat→TypeId):aA:=⟨28,[.tmp 4],.seq (.ops [⟨some 3,.box (.tmp 1),none⟩,⟨some 4,.move (.const (.bool false)),none⟩]) (.seq (.seq (.draw [(⟨some 5,.move (.tmp 0),none⟩,[]),(⟨some 6,.fC 0 false (.tmp 5),none⟩,[]),(⟨some 7,.move (.tmp 6),none⟩,[]),(⟨some 8,.ak 2 (.tmp 3),some (7,false)⟩,[]),(⟨some 9,.call (F 5) [.tmp 8],some (7,false)⟩,[]),(⟨some 10,.un .not (.tmp 9),some (7,false)⟩,[]),(⟨some 11,.pick (.tmp 7) (.const (.bool true)) (.tmp 10),none⟩,[]),(⟨some 12,.move (.tmp 11),none⟩,[]),(⟨some 13,.ak 2 (.tmp 3),some (12,false)⟩,[]),(⟨some 14,.move (.tmp 0),some (12,false)⟩,[]),(⟨some 15,.nilCheck (.tmp 14),some (12,false)⟩,[]),(⟨some 16,.fieldAddr 2 (.tmp 15),some (12,false)⟩,[]),(⟨some 17,.ak 2 (.tmp 16),some (12,false)⟩,[]),(⟨some 18,.call (F 4) [.tmp 13,.tmp 17],some (12,false)⟩,[]),(⟨some 19,.bin .leq (.tmp 18) (.const (.int .i64 0)),some (12,false)⟩,[]),(⟨some 20,.pick (.tmp 12) (.const (.bool true)) (.tmp 19),none⟩,[])]) (.cond (.tmp 20) (.seq (.ops [⟨some 4,.move (.const (.bool false)),none⟩]) (.ret)) (.skip))) (.seq (.ops [⟨some 21,.move (.tmp 0),none⟩,⟨some 22,.move (.tmp 0),none⟩,⟨some 23,.ak 2 (.tmp 3),none⟩,⟨some 24,.nilCheck (.tmp 21),none⟩,⟨some 25,.fieldAddr 2 (.tmp 24),none⟩,⟨none,.store 2 (.tmp 25) (.tmp 23),none⟩,⟨some 26,.nilCheck (.tmp 22),none⟩,⟨some 27,.fieldAddr 4 (.tmp 26),none⟩,⟨none,.store 1 (.tmp 27) (.const (.int .i64 0)),none⟩]) (.seq (.ops [⟨some 4,.move (.const (.bool true)),none⟩]) (.ret))))⟩
structure ry (c:Ctx):Prop where
 Ov:c.IP (c.F 275)=some (rZ c.F c.Ty)
 xy:c.IP (c.F 276)=some (iO c.F c.Ty)
 vI:c.IP (c.F 277)=some (dJ c.F c.Ty)
 tF:c.IP (c.F 278)=some (aX c.F c.Ty)
 vJ:c.IP (c.F 279)=some (gU c.F c.Ty)
 xz:c.IP (c.F 280)=some (iP c.F c.Ty)
 xA:c.IP (c.F 281)=some (iQ c.F c.Ty)
 tH:c.IP (c.F 282)=some (bV c.F c.Ty)
 xB:c.IP (c.F 283)=some (iT c.F c.Ty)
section
attribute [local simp] J0 J1 J2 J3 J4 J5 J6 J7 J8 J9 Ja Jb Jc Jd Je Jf Jg Jh Ji Jj Jk Jl Jm Jn Jo Jp Jq Jr Js Jt Ju Jv Jw Jx Jy Jz JA JB JC JD JE JF JG JH JI JJ JK JL JM JN JO JP JQ JR JS aQ bZ.kind JT JU JV JW JX JY JZ Y0 Y1 Y2 Y3 Y4 Y5 Y6 Y7 Y8 Y9 Ya Yb Yc Yd Ye Yf Yg Yh Yi Yj Yk Yl Ym Yn Yo Yp Yq jq Yr Ys Yt Yu Yv Yw Yx Yy dZ bA bE Yz YA YB YC YD YE eO YF YG YH YI YJ YK YL YM YN YO YP YQ YR YS YT YU nP bK jR nG bu putAt aa.ah aa.aP aa.aK YV YW YX YY YZ B0 B1 B2 B3 B4 B5 B6 B7 B8 B9 Ba Bb Bc Bd Be Bf Bg Bh Bi Bj Bk Bl Bm Bn Bo Bp
section
structure bC where
 n:Int
 me:Int
 ba:Int
 bn:Int
 does:Int
 fr:Int
 next:Int
 filled:Bool
 who:Nat→Bool
 best:Int→Option ay
def X5 (w:Nat→Bool):List Value:=[.bool (w 0),.bool (w 1),.bool (w 2),.bool (w 3),.bool (w 4),.bool (w 5),.bool (w 6)]
def aU (P:bC)(mv:Value):List Value:=
 .int .i64 P.n :: .int .i64 P.me :: .int .i64 P.ba :: .int .i64 P.bn :: .int .i64 P.does :: .int .i64 P.fr :: .int .i64 P.next :: .bool P.filled::(X5 P.who++[mv])
def setW (w:Nat→Bool)(i:Nat):Nat→Bool:=fun j=>if j=i then true else w j
def bC.Ow (P:bC)(x y:Int):bC:={P with ba:=x,bn:=y}
def bC.rz (P:bC)(x:Int):bC:={P with does:=x}
def bC.iI (P:bC)(x:Int):bC:={P with next:=x}
def bC.gG (P:bC)(b:Bool):bC:={P with filled:=b}
def bC.Tz (P:bC)(v:ay):bC:={P with best:=fun s=>if v.slot=s then some v else P.best s}
def bC.lZ (P:bC)(i:Nat):bC:={P with who:=setW P.who i}
theorem qas (P:bC)(mv:Value)(i:Nat)(hi:i<7):(aU P mv)[8+i]? =some (.bool (P.who i)):=by
 match i,hi with
 |0,_=>rfl
 |1,_=>rfl
 |2,_=>rfl
 |3,_=>rfl
 |4,_=>rfl
 |5,_=>rfl
 |6,_=>rfl
theorem X6 (P:bC)(mv:Value)(i:Nat)(hi:i<7):putAt (aU P mv) (8+i) [.bool true]=aU (P.lZ i) mv:=by
 match i,hi with
 |0,_=>rfl
 |1,_=>rfl
 |2,_=>rfl
 |3,_=>rfl
 |4,_=>rfl
 |5,_=>rfl
 |6,_=>rfl
theorem X7 (w:Nat→Bool)(i:Nat)(hi:i<7):(X5 w)[i]? =some (.bool (w i)):=by
 match i,hi with
 |0,_=>rfl
 |1,_=>rfl
 |2,_=>rfl
 |3,_=>rfl
 |4,_=>rfl
 |5,_=>rfl
 |6,_=>rfl
section
variable (P:bC) (mv:Value) (x:Int) (y:Int) (b:Bool)
theorem Ga:(aU P mv)[0]? =some (.int .i64 P.n):=rfl
theorem Gb {h:0<(aU P mv).length}:(aU P mv)[0]'h = .int .i64 P.n:=rfl
theorem Gc:(aU P mv)[1]? =some (.int .i64 P.me):=rfl
theorem Gd {h:1<(aU P mv).length}:(aU P mv)[1]'h = .int .i64 P.me:=rfl
theorem Gf:List.take 2 (List.drop 2 (aU P mv))=[.int .i64 P.ba,.int .i64 P.bn]:=rfl
theorem Gg:(aU P mv)[4]? =some (.int .i64 P.does):=rfl
theorem Gh {h:4<(aU P mv).length}:(aU P mv)[4]'h = .int .i64 P.does:=rfl
theorem Gi:(aU P mv)[5]? =some (.int .i64 P.fr):=rfl
theorem Gj {h:5<(aU P mv).length}:(aU P mv)[5]'h = .int .i64 P.fr:=rfl
theorem Gl:(aU P mv)[6]? =some (.int .i64 P.next):=rfl
theorem Gm {h:6<(aU P mv).length}:(aU P mv)[6]'h = .int .i64 P.next:=rfl
theorem Gn:(aU P mv)[7]? =some (.bool P.filled):=rfl
theorem Gp {h:7<(aU P mv).length}:(aU P mv)[7]'h = .bool P.filled:=rfl
theorem o9:(aU P mv)[15]? =some (mv):=rfl
theorem pg {h:15<(aU P mv).length}:(aU P mv)[15]'h=mv:=rfl
theorem ja:(aU P mv).length=16:=rfl
theorem Gq:List.take 2 (aU P mv)++Value.int .i64 x::Value.int .i64 y::List.drop 4 (aU P mv)=aU (P.Ow x y) mv:=rfl
theorem Gs:List.take 4 (aU P mv)++Value.int .i64 x::List.drop 5 (aU P mv)=aU (P.rz x) mv:=rfl
theorem Gt:List.take 6 (aU P mv)++Value.int .i64 x::List.drop 7 (aU P mv)=aU (P.iI x) mv:=rfl
theorem Gu:List.take 7 (aU P mv)++Value.bool b::List.drop 8 (aU P mv)=aU (P.gG b) mv:=rfl
end
structure yV (B:Nat→Prop)(H:aa)(p:Nat)(P:bC):Prop where
 lt: ∀b,B b→b<H.next
 own:B p
 rep: ∃mv,H.get p=some (.cells (aU P mv) false)∧((mv = .map none∧P.best=(fun _=>none)∧P.does=0)∨∃r,mv = .map (some r)∧B r∧IsMap H r kI vV P.best)
theorem yV.fr {B C:Nat→Prop}{H H':aa}{p:Nat}{P:bC}(h:yV B H p P)(k:Fr C H H')(hd: ∀b,B b→¬ C b):yV B H' p P:=by
 obtain⟨h1,h2,mv,h3,h4⟩:=h
 have hp:=h1 p h2
 refine⟨fun b hb=>Nat.lt_of_lt_of_le (h1 b hb) k.next,h2,mv,(k.get p hp (hd p h2)).trans h3,h4.imp id ?_⟩
 rintro⟨r,e,hr,hm⟩
 exact⟨r,e,hr,hm.same k.next (k.get r (h1 r hr) (hd r hr))⟩
theorem yV.le {B:Nat→Prop}{H H':aa}{p:Nat}{P:bC}(h:yV B H p P)(k:H.le H'):yV B H' p P:=h.fr (k.fr fun _=>False) fun _ _ h=>h
def bC.ok (P:bC):Prop:=aO P.n≠0∧0≤P.me∧P.me<P.n∧0≤P.fr∧P.fr≤P.next∧P.next≤1024∧(0≤P.does∧P.does≤2) ∧
 ∀s v,P.best s=some v→v.slot=s∧P.fr≤s∧s<P.next∧bJ v.a v.n=true∧v.val.size≤4096
theorem eB {n:Int}(h:aO n≠0):1≤n∧n≤7∧1≤aO n∧aO n≤n:=by
 unfold aO at h ⊢
 by_cases hc:n<1∨7<n
 ·rw[if_pos hc]at h;exact absurd rfl h
 ·rw[if_neg hc]
  have h1:1≤n:=by omega
  have h2:n≤7:=by omega
  have:n=1∨n=2∨n=3∨n=4∨n=5∨n=6∨n=7:=by omega
  rcases this with rfl|rfl|rfl|rfl|rfl|rfl|rfl <;> decide
def bC.new (n me:Int):bC:=⟨n,me,0,0,0,0,0,false,fun _=>false,fun _=>none⟩
def bC.lead (P:bC)(a n fr:Int):bC×(Int×Int)×Int:=
 if bJ a n=false∨fr<0∨1024≤fr then (P,(0,0),1)
 else if 2147483647≤(tq [(a,n),(P.ba,P.bn)]).1 then (P,(0,0),5)
 else ({bC.new P.n P.me with ba:=(qx (tq [(a,n),(P.ba,P.bn)]).1 P.me).1,bn:=(qx (tq [(a,n),(P.ba,P.bn)]).1 P.me).2,does:=1,fr:=fr,next:=fr},qx (tq [(a,n),(P.ba,P.bn)]).1 P.me,0)
def bC.takes (P:bC)(v:ay):Bool:=decide (P.fr≤v.slot)&&(decide (v.slot<1024)&&(bJ v.a v.n&&decide (v.val.size≤4096)))
def better (o:Option ay)(v:ay):Bool:=match o with
 |none=>true
 |some w=>decide (0<lX v.a v.n w.a w.n)
def bC.count (P:bC)(v:ay):bC:=
 if P.takes v then (if better (P.best v.slot) v then (P.iI (if v.slot+1>P.next then v.slot+1 else P.next)).Tz v else P.iI (if v.slot+1>P.next then v.slot+1 else P.next))else P
def pV (w:Nat→Bool):Nat→Nat
 |0=>0
 |k+1=>pV w k+if w k then 1 else 0
def bC.promise (P:bC)(fr a n:Int)(l:List ay):bC×Bool:=
 if P.does≠1∨fr<0∨P.n≤fr∨¬ (a=P.ba∧n=P.bn)∨P.who fr.toNat=true then (P,false)
 else if (pV (setW P.who fr.toNat) 7:Int)<aO P.n then (l.foldl bC.count (P.lZ fr.toNat),false)
 else ((l.foldl bC.count (P.lZ fr.toNat)).rz 2,true)
def bC.ax (P:bC)(s:ByteArray):bC×Int:=
 if 4096<s.size then (P,2)else if 1024≤P.next then (P,5)else if P.does≠2 then (P,16)else (P.iI (P.next+1),0)
def bC.step (P:bC)(a n:Int):bC×Bool:=
 if bJ a n=false∨lX a n P.ba P.bn≤0 then (P,false)else ((P.Ow a n).rz 0,true)
def LA (P:bC)(e:Int):Prop:=P.fr≤e∧(∀s v,P.best s=some v→s<e)∧(e=P.fr∨∃v,P.best (e-1)=some v)
theorem LA.uniq {P:bC}{a b:Int}(h:LA P a)(k:LA P b):a=b:=by
 obtain⟨h1,h2,h3⟩:=h
 obtain⟨k1,k2,k3⟩:=k
 rcases h3 with h3|⟨v,h3⟩
 ·rcases k3 with k3|⟨w,k3⟩
  ·omega
  ·have:=h2 _ _ k3;omega
 ·have:=k2 _ _ h3
  rcases k3 with k3|⟨w,k3⟩
  ·omega
  ·have:=h2 _ _ k3;omega
def Pz:ByteArray:=⟨#[]⟩
def valOf (o:Option ay):ByteArray:=match o with
 |some v=>v.val
 |none=>Pz
def mK (P:bC)(s:Int):Nat→List ay
 |0=>[]
 |k+1=>⟨s,P.ba,P.bn,valOf (P.best s)⟩::mK P (s+1) k
def bC.fill (P:bC)(e:Int):List ay:=mK P P.fr (e-P.fr).toNat
structure Ox (c:Ctx):Prop where
 key:c.P.underlying (c.Ty 2)=some (.int .i64)
section
variable (c:Ctx) (hA:iG c) (hB:bN c) (hD:qh c) (hc:ry c) (hT:Ox c) {H:aa} {K:Value→aa→Prop} {B:Nat→Prop} {p:Nat} {P:bC}
include hB hc in
theorem TA {n me:Int}(h0:(aO n=0∨me<0∨n≤me)→K (.pointer none) H)(hK:aO n≠0→0≤me→me<n→∀p B H',H.le H'→(∀b,B b→H.next≤b)→yV B H' p (bC.new n me)→K (.pointer (some ⟨p,0,none⟩)) H'):
 c.C (c.F Lx) [.int .i64 n,.int .i64 me] H K:=by
 refine c.enter hc.Ov rfl ?_
 simp -implicitDefEqProofs [rZ]
 refine av (AL c hB ?_)
 by_cases h1:aO n=0
 ·simp -implicitDefEqProofs [h1]
  exact h0 (.inl h1)
 ·by_cases h2:me<0
  ·simp -implicitDefEqProofs [h1,h2]
   exact h0 (.inr (.inl h2))
  ·by_cases h3:n≤me
   ·simp -implicitDefEqProofs [h1,h2,h3]
    exact h0 (.inr (.inr h3))
   ·simp -implicitDefEqProofs [h1,h2,h3]
    refine hK h1 (by omega) (by omega) H.next (fun b=>b=H.next) _ (H.aj _) (fun b hb=>by omega) ⟨fun b hb=>by rw[YX];omega,rfl,.map none,?_,.inl ⟨rfl,rfl,rfl⟩⟩
    rw[YV,if_pos rfl]
    rfl
include hc in
theorem Nh (h:yV B H p P)(hK:K (.bool (decide (P.does=2))) H):c.C (c.F tC) [.pointer (some ⟨p,0,none⟩)] H K:=by
 refine c.enter hc.vJ rfl ?_
 obtain⟨mv,g,_⟩:=h.rep
 simp -implicitDefEqProofs [gU,g,aU,aT]
 exact hK
include hc in
theorem Qu {s:Int}{x:ByteArray}(h:yV B H p P)(hK: ∀H',H.le H'→K (vV ⟨s,P.ba,P.bn,x⟩) H'):c.C (c.F uE) [.pointer (some ⟨p,0,none⟩),.int .i64 s,.string x] H K:=by
 refine c.enter hc.xz rfl ?_
 obtain⟨mv,g,_⟩:=h.rep
 have hp:=h.lt p h.own
 have e1: ¬ p=H.next:=by omega
 simp -implicitDefEqProofs [iP,g,aU,e1]
 exact hK _ ((H.aj _).set (Nat.le_refl _) _)
end
end
section
section
variable (c:Ctx) (hA:iG c) (hB:bN c) (hD:qh c) (hc:ry c) (hT:Ox c) {H:aa} {K:Value→aa→Prop} {B:Nat→Prop} {p:Nat} {P:bC}
theorem yV.put {B:Nat→Prop}{H H':aa}{p:Nat}{P P':bC}(h:yV B H p P)(hn:H.next≤H'.next)(hg: ∀mv,H.get p=some (.cells (aU P mv) false)→H'.get p=some (.cells (aU P' mv) false))
 (hr: ∀b,b<H.next→b≠p→H'.get b=H.get b) (hb:P'.best=P.best) (hd:P'.does=P.does∨P'.does=0):yV B H' p P':=by
 obtain⟨h1,h2,mv,h3,h4⟩:=h
 refine⟨fun b hb=>Nat.lt_of_lt_of_le (h1 b hb) hn,h2,mv,hg mv h3,?_⟩
 rcases h4 with⟨e1,e2,e3⟩|⟨r,e,hrB,hm⟩
 ·exact .inl ⟨e1,by rw[hb];exact e2,by rcases hd with hd|hd <;> omega⟩
 ·refine .inr ⟨r,e,hrB,?_⟩
  rw[hb]
  exact hm.same hn (hr r (h1 r hrB) (fun e=>hm.zn h3 e.symm))
include hA hc in
theorem Qv {a n:Int}(h:yV B H p P)(hK: ∀H',Fr B H H'→yV B H' p (P.step a n).1→K (.bool (P.step a n).2) H'):c.C (c.F uG) [.pointer (some ⟨p,0,none⟩),vB a n] H K:=by
 refine c.enter hc.xB rfl ?_
 obtain⟨mv,g,_⟩:=h.rep
 have hp:=h.lt p h.own
 have e1: ¬ p=H.next:=by omega
 simp -implicitDefEqProofs [iT,vB,aT]
 have k0:=H.aj (.cells [.int .i64 a,.int .i64 n] false)
 refine aI c.mono (zq c hA fun H1 k1=> ?_)
 have g1:=(k1.get p (by rw[YX];omega)).trans ((k0.get p hp).trans g)
 have b1:=(k1.get H.next (by rw[YX];omega)).trans (iC H _)
 by_cases hv:bJ a n=true
 ·simp -implicitDefEqProofs [hv,b1,g1,Ga,Gc,Gf,Gg,Gi,Gl,Gn,o9,Gb,Gd,Gh,Gj,Gm,Gp,pg,ja,Gq,Gs,Gt,Gu]
  refine aI c.mono (Lv c hA fun H2 k2=> ?_)
  have n1:=k1.next
  rw[YX]at n1
  have g2:=(k2.get p (by omega)).trans g1
  have b2:=(k2.get H.next (by omega)).trans b1
  by_cases hcm:lX a n P.ba P.bn≤0
  ·have hs:P.step a n=(P,false):=by unfold bC.step;rw[if_pos (.inr hcm)]
   rw[hs]at hK
   simp -implicitDefEqProofs [hcm]
   have k:=(k0.trans k1).trans k2
   exact hK _ (k.fr _) (h.le k)
  ·have hs:P.step a n=((P.Ow a n).rz 0,true):=by unfold bC.step;rw[if_neg (by simp[hv,hcm])]
   rw[hs]at hK
   simp -implicitDefEqProofs [hcm,g2,b2,Ga,Gc,Gf,Gg,Gi,Gl,Gn,o9,Gb,Gd,Gh,Gj,Gm,Gp,pg,ja,Gq,Gs,Gt,Gu]
   have k:=(k0.trans k1).trans k2
   have g0:=(k.get p hp).trans g
   refine hK _ (((k.fr B).set (.inl h.own) _).set (.inl h.own) _) (h.put (Nat.le_trans k.next (Nat.le_refl _)) (fun mv' g'=> ?_) (fun b hb hne=> ?_) rfl (.inr rfl))
   ·rw[g']at g
    simp only[Option.some.injEq,fK.cells.injEq,and_true]at g
    have:mv'=mv:=by simpa[aU]using g
    subst this
    rw[YW,if_pos rfl]
   ·rw[YW,if_neg hne,YW,if_neg hne]
    exact k.get b hb
 ·have hs:P.step a n=(P,false):=by unfold bC.step;rw[if_pos (.inl (by simpa using hv))]
  rw[hs]at hK
  simp -implicitDefEqProofs [hv]
  exact hK _ ((k0.trans k1).fr _) (h.le (k0.trans k1))
def zx:ay:=⟨0,0,0,Pz⟩
def bC.vK (P:bC)(s:ByteArray):ay:=if (P.ax s).2=0 then ⟨P.next,P.ba,P.bn,s⟩else zx
include hc in
theorem Qw {s:ByteArray}(h:yV B H p P)(ho:P.ok)(hK: ∀H',Fr B H H'→yV B H' p (P.ax s).1→K (.tuple #[vV (P.vK s),.int .i64 (P.ax s).2]) H'):
 c.C (c.F ru) [.pointer (some ⟨p,0,none⟩),.string s] H K:=by
 refine c.enter hc.tH rfl ?_
 obtain⟨mv,g,_⟩:=h.rep
 have hp:=h.lt p h.own
 have e1: ¬ p=H.next:=by omega
 have hl:s.data.toList.length=s.size:=rfl
 have kA: ∀x y,H.le ((H.alloc x).set H.next y):=fun x y=>(H.aj _).set (Nat.le_refl _) _
 unfold bC.vK at hK
 unfold bC.ax at hK
 by_cases h1:4096<s.size
 ·have h1':(4096:Int)<(s.size:Int):=by omega
  simp only[if_pos h1]at hK
  simp -implicitDefEqProofs [bV,aT,hl,h1']
  exact hK _ ((kA _ _).fr _) (h.le (kA _ _))
 ·have h1': ¬ (4096:Int)<(s.size:Int):=by omega
  simp only[if_neg h1]at hK
  have z5: ¬ ((5:Int)=0):=by decide
  have z16: ¬ ((16:Int)=0):=by decide
  by_cases h2:1024≤P.next
  ·simp only[if_pos h2,if_neg z5]at hK
   simp -implicitDefEqProofs [bV,aT,hl,h1',h2,g,Ga,Gc,Gf,Gg,Gi,Gl,Gn,o9,Gb,Gd,Gh,Gj,Gm,Gp,pg,ja,Gq,Gs,Gt,Gu,e1]
   exact hK _ ((kA _ _).fr _) (h.le (kA _ _))
  ·simp only[if_neg h2]at hK
   by_cases h3:P.does=2
   ·simp only[h3,ne_eq,not_true,if_false]at hK
    have w1:IntKind.i64.wrap (P.next+1)=P.next+1:=wrap64 (by have:=ho.2.2.2.1;have:=ho.2.2.2.2.1;omega) (by omega)
    have w2:IntKind.i64.wrap ((P.iI (P.next+1)).next-1)=P.next:=by
     rw[show(P.iI (P.next+1)).next-1=P.next by show P.next+1-1=P.next;omega]
     exact wrap64 (by have:=ho.2.2.2.1;have:=ho.2.2.2.2.1;omega) (by omega)
    simp -implicitDefEqProofs [bV,aT,hl,h1',h2,h3,g,Ga,Gc,Gf,Gg,Gi,Gl,Gn,o9,Gb,Gd,Gh,Gj,Gm,Gp,pg,ja,Gq,Gs,Gt,Gu,e1,w1,w2]
    obtain⟨HX,hHX⟩: ∃X:aa,X=(H.alloc (.cells [.int .i64 0,.int .i64 0,.int .i64 0,.string ⟨#[]⟩] false)).set p (.cells (aU (P.iI (P.next+1)) mv) false):=⟨_,rfl⟩
    have fX:Fr B H HX:=by rw[hHX];exact(((H.aj _).fr B).set (.inl h.own) _)
    have nX:HX.next=H.next+1:=by rw[hHX];rfl
    have gX:HX.get H.next=some (.cells [.int .i64 0,.int .i64 0,.int .i64 0,.string ⟨#[]⟩] false):=by
     rw[hHX,YW,if_neg (fun e=>e1 e.symm)];exact iC _ _
    have iX:yV B HX p (P.iI (P.next+1)):=h.put (by omega) (fun mv' g'=>by
     have:mv'=mv:=by simpa[g',aU]using g
     subst this
     rw[hHX,YW,if_pos rfl]) (fun b hb hne=>by rw[hHX,YW,if_neg hne,YV,if_neg (by omega)]) rfl (.inl rfl)
    rw[show(H.alloc (.cells [.int .i64 0,.int .i64 0,.int .i64 0,.string ⟨#[]⟩] false)).set p _=HX from hHX.symm]
    refine av (Qu c hc (s:=P.next) iX fun H2 k2=> ?_)
    have g2:=(k2.get H.next (by omega)).trans gX
    simp -implicitDefEqProofs [vV,g2]
    refine hK _ ((fX.jg k2).set (.inr (Nat.le_refl _)) _) ?_
    exact((iX.le k2).fr (((aa.le_refl H2).fr (fun b=>b=H.next)).set (.inl rfl) _) (fun b hb e=>by have:=h.lt b hb;omega))
   ·have h3': ¬ P.does=2:=h3
    simp only[h3,ne_eq,not_false_eq_true,if_true,if_neg z16]at hK
    simp -implicitDefEqProofs [bV,aT,hl,h1',h2,h3,g,Ga,Gc,Gf,Gg,Gi,Gl,Gn,o9,Gb,Gd,Gh,Gj,Gm,Gp,pg,ja,Gq,Gs,Gt,Gu,e1]
    exact hK _ ((kA _ _).fr _) (h.le (kA _ _))
end
end
section
section
variable (c:Ctx) (hA:iG c) (hB:bN c) (hD:qh c) (hc:ry c) (hT:Ox c) {H:aa} {K:Value→aa→Prop} {B:Nat→Prop} {p:Nat} {P:bC}
include hA hD hc in
theorem Wm {a n fr:Int}(h:yV B H p P)(hK: ∀H' B',Fr B H H'→(∀b,B' b→B b∨H.next≤b)→yV B' H' p (P.lead a n fr).1→K (.tuple #[vB (P.lead a n fr).2.1.1 (P.lead a n fr).2.1.2,.int .i64 (P.lead a n fr).2.2]) H'):
 c.C (c.F uD) [.pointer (some ⟨p,0,none⟩),vB a n,.int .i64 fr] H K:=by
 refine c.enter hc.xy rfl ?_
 obtain⟨mv,g,_⟩:=h.rep
 have hp:=h.lt p h.own
 have e1: ¬ p=H.next:=by omega
 have e2: ¬ p=H.next+1:=by omega
 obtain⟨H0,hH0⟩: ∃X:aa,X=(H.alloc (.cells [.int .i64 a,.int .i64 n] false)).alloc (.cells [.int .i64 0,.int .i64 0] false):=⟨_,rfl⟩
 have k0:H.le H0:=by rw[hH0];exact(H.aj _).alloc _
 have n0:H0.next=H.next+2:=by rw[hH0];rfl
 have b0:H0.get H.next=some (.cells [.int .i64 a,.int .i64 n] false):=by rw[hH0,YV,if_neg (by rw[YX];omega),YV,if_pos rfl]
 have r0:H0.get (H.next+1)=some (.cells [.int .i64 0,.int .i64 0] false):=by rw[hH0,YV,YX,if_pos rfl]
 simp -implicitDefEqProofs [iO,vB,aT,←hH0,b0]
 refine av (zq c hA fun H1 k1=> ?_)
 have n1:=k1.next
 have nI:=k0.trans k1
 have g1:=(nI.get p hp).trans g
 have b1:=(k1.get H.next (by omega)).trans b0
 have r1:=(k1.get (H.next+1) (by omega)).trans r0
 have bad: ∀(HX:aa) (x y:Value) (z:Int),H.le HX→H.next+1<HX.next→P.lead a n fr=(P,(0,0),z)→K (.tuple #[vB 0 0,.int .i64 z]) (HX.set (H.next+1) (.cells [x,y] false)):=by
  intro HX x y z kX nX hl
  rw[hl]at hK
  exact hK _ B (((kX.fr B)).set (.inr (by omega)) _) (fun b hb=>.inl hb) ((h.le kX).fr (((aa.le_refl HX).fr (fun b=>b=H.next+1)).set (.inl rfl) _) (fun b hb e=>by have:=h.lt b hb;omega))
 by_cases hbad:bJ a n=false∨fr<0∨1024≤fr
 ·have hl:P.lead a n fr=(P,(0,0),1):=by unfold bC.lead;rw[if_pos hbad]
  by_cases hv:bJ a n=true
  ·by_cases h2:fr<0
   ·simp -implicitDefEqProofs [hv,h2,r1]
    exact bad H1 _ _ _ nI (by omega) hl
   ·have h3:1024≤fr:=by rcases hbad with h|h|h;rw[hv]at h;cases h;exact absurd h h2;exact h
    simp -implicitDefEqProofs [hv,h2,h3,r1]
    exact bad H1 _ _ _ nI (by omega) hl
  ·simp -implicitDefEqProofs [hv,r1]
   exact bad H1 _ _ _ nI (by omega) hl
 ·have hv:bJ a n=true:=by cases hq:bJ a n with|true=>rfl|false=>exact absurd (.inl hq) hbad
  have h2: ¬ fr<0:=fun h=>hbad (.inr (.inl h))
  have h3: ¬ 1024≤fr:=fun h=>hbad (.inr (.inr h))
  obtain⟨H2,hH2⟩: ∃X:aa,X=(H1.alloc (.cells [.int .i64 a,.int .i64 n,.int .i64 P.ba,.int .i64 P.bn] false)).alloc (.cells [.int .i64 0,.int .i64 0] false):=⟨_,rfl⟩
  have k2:H1.le H2:=by rw[hH2];exact(H1.aj _).alloc _
  have n2:H2.next=H1.next+2:=by rw[hH2];rfl
  simp -implicitDefEqProofs [hv,h2,h3,b1,g1,Ga,Gc,Gf,Gg,Gi,Gl,Gn,o9,Gb,Gd,Gh,Gj,Gm,Gp,pg,ja,Gq,Gs,Gt,Gu,←hH2]
  refine aI c.mono (qar c hA hD (l:=[(a,n),(P.ba,P.bn)]) ?_ (by simp) fun H3 k3=> ?_)
  ·refine⟨_,_,rfl,fun _=>⟨H1.next,0,[.int .i64 a,.int .i64 n,.int .i64 P.ba,.int .i64 P.bn],false,rfl,by omega,by rw[hH2,YV,if_neg (by rw[YX];omega),YV,if_pos rfl],fun i r hr=> ?_⟩⟩
   match i,hr with
   |0,hr=>simp[oZ]at hr;subst hr;exact⟨rfl,rfl,by simp⟩
   |1,hr=>simp[oZ]at hr;subst hr;exact⟨rfl,rfl,by simp⟩
   |i+2,hr=>simp at hr
  ·have n3:=k3.next
   have k03:=(nI.trans k2).trans k3
   have g3:=(k03.get p hp).trans g
   have t3:H3.get (H1.next+1)=some (.cells [.int .i64 0,.int .i64 0] false):=by rw[k3.get _ (by omega),hH2,YV,YX,if_pos rfl]
   have r3:H3.get (H.next+1)=some (.cells [.int .i64 0,.int .i64 0] false):=((k2.trans k3).get _ (by omega)).trans r1
   obtain⟨m,hm⟩: ∃m,m=tq [(a,n),(P.ba,P.bn)]:=⟨_,rfl⟩
   rw[←hm]
   have e3: ¬ H.next+1=H1.next+1:=by omega
   obtain⟨H4,qN⟩: ∃X:aa,X=H3.set (H1.next+1) (.cells [.int .i64 m.1,.int .i64 m.2] false):=⟨_,rfl⟩
   have k4:H.le H4:=by rw[qN];exact k03.set (by omega) _
   have n4:H4.next=H3.next:=by rw[qN];rfl
   have g4:=(k4.get p hp).trans g
   have t4:H4.get (H1.next+1)=some (.cells [.int .i64 m.1,.int .i64 m.2] false):=by rw[qN,YW,if_pos rfl]
   have r4:H4.get (H.next+1)=some (.cells [.int .i64 0,.int .i64 0] false):=by rw[qN,YW,if_neg e3];exact r3
   by_cases hf:2147483647≤m.1
   ·have hl:P.lead a n fr=(P,(0,0),5):=by unfold bC.lead;rw[if_neg hbad,←hm,if_pos hf]
    simp -implicitDefEqProofs [vB,t3,←qN,t4,hf,r4]
    exact bad H4 _ _ _ k4 (by omega) hl
   ·have hl:P.lead a n fr=({bC.new P.n P.me with ba:=(qx m.1 P.me).1,bn:=(qx m.1 P.me).2,does:=1,fr:=fr,next:=fr},qx m.1 P.me,0):=by unfold bC.lead;rw[if_neg hbad,←hm,if_neg hf]
    rw[hl]at hK
    obtain⟨H5,hH5⟩: ∃X:aa,X=H4.alloc (.cells [.int .i64 0,.int .i64 0] false):=⟨_,rfl⟩
    have k5:H.le H5:=by rw[hH5];exact k4.alloc _
    have n5:H5.next=H4.next+1:=by rw[hH5];rfl
    simp -implicitDefEqProofs [vB,t3,←qN,t4,hf,g4,Ga,Gc,Gf,Gg,Gi,Gl,Gn,o9,Gb,Gd,Gh,Gj,Gm,Gp,pg,ja,Gq,Gs,Gt,Gu,←hH5]
    refine aI c.mono (X4 c hD fun H6 k6=> ?_)
    have n6:=k6.next
    obtain⟨b,hb⟩: ∃b,b=qx m.1 P.me:=⟨_,rfl⟩
    rw[←hb]at hK ⊢
    have t6:H6.get H4.next=some (.cells [.int .i64 0,.int .i64 0] false):=by rw[k6.get _ (by omega),hH5,YV,if_pos rfl]
    have k06:=k5.trans k6
    have g6:=(k06.get p hp).trans g
    obtain⟨H7,hH7⟩: ∃X:aa,X=H6.set H4.next (.cells [.int .i64 b.1,.int .i64 b.2] false):=⟨_,rfl⟩
    have k7:H.le H7:=by rw[hH7];exact k06.set (by omega) _
    have n7:H7.next=H6.next:=by rw[hH7];rfl
    have g7:=(k7.get p hp).trans g
    have t7:H7.get H4.next=some (.cells [.int .i64 b.1,.int .i64 b.2] false):=by rw[hH7,YW,if_pos rfl]
    have r7:H7.get (H.next+1)=some (.cells [.int .i64 0,.int .i64 0] false):=by
     rw[hH7,YW,if_neg (by omega),k6.get _ (by omega),hH5,YV,if_neg (by omega)];exact r4
    obtain⟨PN,hPN⟩: ∃PN:bC,PN={bC.new P.n P.me with ba:=b.1,bn:=b.2,does:=1,fr:=fr,next:=fr}:=⟨_,rfl⟩
    rw[←hPN]at hK
    obtain⟨H8,PD⟩: ∃X:aa,X=(H7.alloc (.map [] 0)).set p (.cells (aU PN (.map (some H7.next))) false):=⟨_,rfl⟩
    have f8:Fr B H H8:=by rw[PD];exact((k7.alloc _).fr B).set (.inl h.own) _
    have n8:H8.next=H7.next+1:=by rw[PD];rfl
    have qat:(H7.alloc (.map [] 0)).set p (.cells [.int .i64 P.n,.int .i64 P.me,.int .i64 b.1,.int .i64 b.2,.int .i64 1,.int .i64 fr,.int .i64 fr,.bool false,.bool false,.bool false,.bool false,.bool false,.bool false,.bool false,.bool false,.map (some H7.next)] false)=H8:=by rw[PD,hPN];rfl
    have i8:yV (fun x=>x=p∨x=H7.next) H8 p PN:=by
     refine⟨fun x hx=> ?_,.inl rfl,.map (some H7.next),by rw[PD,YW,if_pos rfl],.inr ⟨H7.next,rfl,.inr rfl,?_⟩⟩
     ·have:=k7.next
      rcases hx with rfl|rfl <;> omega
     ·have:=IsMap.new H7 kI vV (κ:=Int)
      rw[show PN.best=fun _=>none by rw[hPN];rfl]
      exact this.same (by rw[PD];exact Nat.le_refl _) (by rw[PD,YW,if_neg (by have:=k7.next;omega)])
    have t8:H8.get H4.next=some (.cells [.int .i64 b.1,.int .i64 b.2] false):=by rw[PD,YW,if_neg (by have:=k4.next;omega),YV,if_neg (by omega)];exact t7
    have r8:H8.get (H.next+1)=some (.cells [.int .i64 0,.int .i64 0] false):=by rw[PD,YW,if_neg (by omega),YV,if_neg (by omega)];exact r7
    have e7: ¬ p=H7.next:=by have:=k7.next;omega
    have d16:List.drop 16 (aU P mv)=[]:=rfl
    simp -implicitDefEqProofs [vB,t6,←hH7,g7,e7,d16,Ga,Gc,Gf,Gg,Gi,Gl,Gn,o9,Gb,Gd,Gh,Gj,Gm,Gp,pg,ja,Gq,Gs,Gt,Gu,t7,qat,t8,r8]
    refine hK _ _ (f8.set (.inr (by omega)) _) (fun x hx=> ?_) (i8.fr (((aa.le_refl H8).fr (fun b=>b=H.next+1)).set (.inl rfl) _) (fun x hx e=> ?_))
    ·have:=k7.next
     rcases hx with rfl|rfl
     ·exact .inl h.own
     ·exact .inr this
    ·have:=k7.next
     rcases hx with rfl|rfl <;> omega
end
end
section
theorem yV.getNext {B:Nat→Prop}{H:aa}{p:Nat}{P:bC}(h:yV B H p P)(hd:P.does≠0): ∃r,H.get p=some (.cells (aU P (.map (some r))) false)∧B r∧IsMap H r kI vV P.best∧p≠r:=by
 obtain⟨_,_,mv,g,hm⟩:=h
 rcases hm with⟨_,_,h0⟩|⟨r,rfl,hr,hm⟩
 ·exact absurd h0 hd
 ·exact⟨r,g,hr,hm,hm.zn g⟩
section
variable (c:Ctx) (hA:iG c) (hB:bN c) (hD:qh c) (hc:ry c) (hT:Ox c) {H:aa} {K:Value→aa→Prop} {B:Nat→Prop} {p:Nat} {P:bC}
include hA hc hT in
theorem Ut {v:ay}(h:yV B H p P)(hd:P.does≠0)(hfr:0≤P.fr)(hK: ∀H',Fr B H H'→yV B H' p (P.count v)→K (.tuple #[]) H'):
 c.C (c.F tu) [.pointer (some ⟨p,0,none⟩),vV v] H K:=by
 refine c.enter hc.vI rfl ?_
 obtain⟨r,g,hr,hm,hne⟩:=h.getNext hd
 have hp:=h.lt p h.own
 have hrl:=h.lt r hr
 have e1: ¬ p=H.next:=by omega
 obtain⟨H0,hH0⟩: ∃X:aa,X=H.alloc (.cells (aG v) false):=⟨_,rfl⟩
 have k0:H.le H0:=by rw[hH0];exact H.aj _
 have n0:H0.next=H.next+1:=by rw[hH0];rfl
 have b0:H0.get H.next=some (.cells [.int .i64 v.slot,.int .i64 v.a,.int .i64 v.n,.string v.val] false):=by rw[hH0,YV,if_pos rfl];rfl
 have g0:=(k0.get p hp).trans g
 have fV:H.alloc (.cells [.int .i64 v.slot,.int .i64 v.a,.int .i64 v.n,.string v.val] false)=H0:=by rw[hH0];rfl
 have hl:v.val.data.toList.length=v.val.size:=rfl
 have bad: ∀HX,H.le HX→P.takes v=false→K (.tuple #[]) HX:=by
  intro HX kX ht
  have:P.count v=P:=by unfold bC.count;rw[ht];rfl
  rw[this]at hK
  exact hK HX (kX.fr B) (h.le kX)
 by_cases h1:v.slot<P.fr
 ·simp -implicitDefEqProofs [dJ,vV,fV,b0,g0,Ga,Gc,Gf,Gg,Gi,Gl,Gn,o9,Gb,Gd,Gh,Gj,Gm,Gp,pg,ja,Gq,Gs,Gt,Gu,h1]
  exact bad H0 k0 (by unfold bC.takes;rw[decide_eq_false (by omega)];rfl)
 ·by_cases h2:1024≤v.slot
  ·simp -implicitDefEqProofs [dJ,vV,fV,b0,g0,Ga,Gc,Gf,Gg,Gi,Gl,Gn,o9,Gb,Gd,Gh,Gj,Gm,Gp,pg,ja,Gq,Gs,Gt,Gu,h1,h2]
   exact bad H0 k0 (by unfold bC.takes;rw[decide_eq_false (p:=v.slot<1024) (by omega)];simp)
  ·simp -implicitDefEqProofs [dJ,vV,fV,b0,g0,Ga,Gc,Gf,Gg,Gi,Gl,Gn,o9,Gb,Gd,Gh,Gj,Gm,Gp,pg,ja,Gq,Gs,Gt,Gu,h1,h2]
   refine aI c.mono (zq c hA fun H1 k1=> ?_)
   have n1:=k1.next
   have b1:=(k1.get H.next (by omega)).trans b0
   have nI:=k0.trans k1
   have g1:=(nI.get p hp).trans g
   by_cases h3:bJ v.a v.n=true
   ·by_cases h4:4096<v.val.size
    ·have h4':(4096:Int)<(v.val.size:Int):=by omega
     simp -implicitDefEqProofs [b1,hl,h3,h4,h4']
     exact bad H1 nI (by unfold bC.takes;rw[h3,decide_eq_false (p:=v.val.size≤4096) (by omega)];simp)
    ·have h4': ¬ (4096:Int)<(v.val.size:Int):=by omega
     have ht:P.takes v=true:=by unfold bC.takes;simp only[h3,Bool.true_and,Bool.and_eq_true,decide_eq_true_eq];omega
     have w1:IntKind.i64.wrap (v.slot+1)=v.slot+1:=wrap64 (by omega) (by omega)
     obtain⟨nx,hnx⟩: ∃nx,nx=(if v.slot+1>P.next then v.slot+1 else P.next):=⟨_,rfl⟩
     have hcount:P.count v=if better (P.best v.slot) v then (P.iI nx).Tz v else P.iI nx:=by unfold bC.count;rw[ht,if_pos rfl,hnx]
     rw[hcount]at hK
     obtain⟨H2,hH2⟩: ∃X:aa,X=H1.set p (.cells (aU (P.iI nx) (.map (some r))) false):=⟨_,rfl⟩
     have k2:Fr B H H2:=by rw[hH2];exact(nI.fr B).set (.inl h.own) _
     have n2:H2.next=H1.next:=by rw[hH2];rfl
     have g2:H2.get p=some (.cells (aU (P.iI nx) (.map (some r))) false):=by rw[hH2,YW,if_pos rfl]
     have m2:IsMap H2 r kI vV P.best:=hm.same k2.next (by rw[hH2,YW,if_neg (fun e=>hne e.symm),nI.get r hrl])
     have b2:H2.get H.next=some (.cells [.int .i64 v.slot,.int .i64 v.a,.int .i64 v.n,.string v.val] false):=by rw[hH2,YW,if_neg (fun e=>e1 e.symm)];exact b1
     have lk:=m2.look (P:=c.P) (keyOf_int hT.key) v.slot (.agg #[.int .i64 0,.int .i64 0,.int .i64 0,.string ⟨#[]⟩]) true
     simp only[kI]at lk
     have fin: ∀HX (HY:aa),Fr B H HX→HX.get p=some (.cells (aU (P.iI nx) (.map (some r))) false)→IsMap HX r kI vV P.best→HX.get H.next=some (.cells [.int .i64 v.slot,.int .i64 v.a,.int .i64 v.n,.string v.val] false) →
      better (P.best v.slot) v=true→∃o,Uk c.P HX (c.Ty 2) (.map (some r)) (.int .i64 v.slot) (.agg #[.int .i64 v.slot,.int .i64 v.a,.int .i64 v.n,.string v.val])=some (undef,HX.set r o)∧K (.tuple #[]) (HX.set r o):=by
      intro HX _ fX gX mX bX hbt
      obtain⟨o,e1,e2⟩:=mX.put (P:=c.P) (keyOf_int hT.key) v.slot v
      refine⟨o,e1,?_⟩
      rw[hbt,if_pos rfl]at hK
      refine hK _ (fX.set (.inl hr) _) ⟨fun b hb=>Nat.lt_of_lt_of_le (h.lt b hb) fX.next,h.own,.map (some r),?_,.inr ⟨r,rfl,hr,?_⟩⟩
      ·rw[YW,if_neg hne];exact gX
      ·exact e2
     have keep: ∀HX,Fr B H HX→HX.get p=some (.cells (aU (P.iI nx) (.map (some r))) false)→IsMap HX r kI vV P.best→better (P.best v.slot) v=false→K (.tuple #[]) HX:=by
      intro HX fX gX mX hbt
      rw[hbt,if_neg (by simp)]at hK
      exact hK _ fX ⟨fun b hb=>Nat.lt_of_lt_of_le (h.lt b hb) fX.next,h.own,.map (some r),gX,.inr ⟨r,rfl,hr,mX⟩⟩
     have ep2: ¬ p=H2.next:=by have:=k2.next;omega
     have eb2: ¬ H.next=H2.next:=by have:=k2.next;omega
     have er2: ¬ r=H2.next:=by have:=k2.next;omega
     cases hq:P.best v.slot with
     |none=>
      rw[hq]at lk
      have hbt:better (P.best v.slot) v=true:=by rw[hq];rfl
      obtain⟨H3,hH3⟩: ∃X:aa,X=(H2.alloc (.cells [.int .i64 0,.int .i64 0,.int .i64 0,.string ⟨#[]⟩] false)).set H2.next (.cells [.int .i64 0,.int .i64 0,.int .i64 0,.string ⟨#[]⟩] false):=⟨_,rfl⟩
      have k3:H2.le H3:=by rw[hH3];exact(H2.aj _).set (Nat.le_refl _) _
      have g3:=(k3.get p (by omega)).trans g2
      have b3:=(k3.get H.next (by omega)).trans b2
      obtain⟨o,q1,q2⟩:=fin H3 H3 (k2.jg k3) g3 (m2.le k3) b3 hbt
      simp -implicitDefEqProofs [b1,hl,h3,h4,h4',g1,Ga,Gc,Gf,Gg,Gi,Gl,Gn,o9,Gb,Gd,Gh,Gj,Gm,Gp,pg,ja,Gq,Gs,Gt,Gu,w1,←hnx,←hH2,g2,b2,lk,←hH3,g3,b3,q1]
      exact q2
     |some w=>
      rw[hq]at lk
      obtain⟨H3,hH3⟩: ∃X:aa,X=(H2.alloc (.cells [.int .i64 0,.int .i64 0,.int .i64 0,.string ⟨#[]⟩] false)).set H2.next (.cells [.int .i64 w.slot,.int .i64 w.a,.int .i64 w.n,.string w.val] false):=⟨_,rfl⟩
      have k3:H2.le H3:=by rw[hH3];exact(H2.aj _).set (Nat.le_refl _) _
      have n3:H3.next=H2.next+1:=by rw[hH3];rfl
      have b3:=(k3.get H.next (by omega)).trans b2
      have w3:H3.get H2.next=some (.cells [.int .i64 w.slot,.int .i64 w.a,.int .i64 w.n,.string w.val] false):=by rw[hH3,YW,if_pos rfl]
      simp -implicitDefEqProofs [b1,hl,h3,h4,h4',g1,Ga,Gc,Gf,Gg,Gi,Gl,Gn,o9,Gb,Gd,Gh,Gj,Gm,Gp,pg,ja,Gq,Gs,Gt,Gu,w1,←hnx,←hH2,g2,b2,lk,vV,←hH3,b3,w3]
      refine av (Lv c hA fun H4 k4=> ?_)
      have k34:=k3.trans k4
      have g4:=(k34.get p (by omega)).trans g2
      have b4:=(k34.get H.next (by omega)).trans b2
      by_cases hcm:0<lX v.a v.n w.a w.n
      ·have hbt:better (P.best v.slot) v=true:=by rw[hq];exact decide_eq_true hcm
       obtain⟨o,q1,q2⟩:=fin H4 H4 (k2.jg k34) g4 (m2.le k34) b4 hbt
       simp -implicitDefEqProofs [hcm,g4,b4,Ga,Gc,Gf,Gg,Gi,Gl,Gn,o9,Gb,Gd,Gh,Gj,Gm,Gp,pg,ja,Gq,Gs,Gt,Gu,q1]
       exact q2
      ·have hbt:better (P.best v.slot) v=false:=by rw[hq];exact decide_eq_false hcm
       simp -implicitDefEqProofs [hcm]
       exact keep H4 (k2.jg k34) g4 (m2.le k34) hbt
   ·simp -implicitDefEqProofs [b1,hl,h3]
    exact bad H1 nI (by unfold bC.takes;simp[h3])
end
end
end
end Go.Proofs.YtpbbjfighohokaaGreatI
