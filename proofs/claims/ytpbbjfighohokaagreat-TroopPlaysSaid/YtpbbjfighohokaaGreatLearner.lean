/- A learner: what each function does. -/
import Derived.Test.YtpbbjfighohokaaGreatBalA
import Derived.Test.YtpbbjfighohokaaGreatProD
import Derived.Test.YtpbbjfighohokaaGreatPartLearner
namespace Go.Proofs.YtpbbjfighohokaaGreatI
open Go
set_option linter.unusedSimpArgs false
set_option linter.unusedVariables false
section
attribute [local simp] J0 J1 J2 J3 J4 J5 J6 J7 J8 J9 Ja Jb Jc Jd Je Jf Jg Jh Ji Jj Jk Jl Jm Jn Jo Jp Jq Jr Js Jt Ju Jv Jw Jx Jy Jz JA JB JC JD JE JF JG JH JI JJ JK JL JM JN JO JP JQ JR JS aQ bZ.kind JT JU JV JW JX JY JZ Y0 Y1 Y2 Y3 Y4 Y5 Y6 Y7 Y8 Y9 Ya Yb Yc Yd Ye Yf Yg Yh Yi Yj Yk Yl Ym Yn Yo Yp Yq jq Yr Ys Yt Yu Yv Yw Yx Yy dZ bA bE Yz YA YB YC YD YE eO YF YG YH YI YJ YK YL YM YN YO YP YQ YR YS YT YU nP bK jR nG bu putAt aa.ah aa.aP aa.aK YV YW YX YY YZ B0 B1 B2 B3 B4 B5 B6 B7 B8 B9 Ba Bb Bc Bd Be Bf Bg Bh Bi Bj Bk Bl Bm Bn Bo Bp
section
structure Lr where
 n:Int
 base:Int
 told:Int→Option ByteArray
 ai:Int×Int→Option ay
def Lr.ok (l:Lr):Prop:=1≤l.n∧l.n≤7∧0≤l.base∧l.base≤1024∧∀s,l.told s≠none→l.base≤s∧s<1024
structure IM (H:aa)(p r1 r2:Nat)(l:Lr):Prop where
 lt:p<H.next
 ok:l.ok
 get:H.get p=some (.cells [.int .i64 l.n,.int .i64 l.base,.map (some r1),.map (some r2)] false)
 told:IsMap H r1 kI gS l.told
 ai:IsMap H r2 kP vV l.ai
 ne:r1≠r2
theorem IM.ne1 {H:aa}{p r1 r2:Nat}{l:Lr}(h:IM H p r1 r2 l):p≠r1:=h.told.zn h.get
theorem IM.ME {H:aa}{p r1 r2:Nat}{l:Lr}(h:IM H p r1 r2 l):p≠r2:=h.ai.zn h.get
theorem IM.le {H H':aa}{p r1 r2:Nat}{l:Lr}(h:IM H p r1 r2 l)(hl:H.le H'):IM H' p r1 r2 l:=
 ⟨Nat.lt_of_lt_of_le h.lt hl.next,h.ok,(hl.get p h.lt).trans h.get,h.told.le hl,h.ai.le hl,h.ne⟩
def mQ (l:Lr)(s:Int)(v:ByteArray):Bool:=decide (l.base≤s)&&(decide (s<1024)&&(decide (v.size≤4096)&&(l.told s).isNone))
def zH (l:Lr)(s:Int):Prop:=l.base≤s∧s≤1024∧l.told s=none∧∀t,l.base≤t→t<s→l.told t≠none
theorem zH.uniq {l:Lr}{a b:Int}(h:zH l a)(k:zH l b):a=b:=by
 obtain⟨h1,h2,h3,h4⟩:=h
 obtain⟨k1,k2,k3,k4⟩:=k
 rcases Int.lt_trichotomy a b with x|x|x
 ·exact absurd h3 (k4 a h1 x)
 ·exact x
 ·exact absurd k3 (h4 b k1 x)
def Lr.tell (l:Lr)(s:Int)(v:ByteArray):Lr:={l with told:=fun s'=>if s=s' then some v else l.told s',ai:=fun k=>if k.1=s∧0≤k.2∧k.2<l.n then none else l.ai k}
theorem Lr.ok.tell {l:Lr}(h:l.ok){s:Int}{v:ByteArray}(hm:mQ l s v=true):(l.tell s v).ok:=by
 obtain⟨h1,h2,h3,h4,h5⟩:=h
 refine⟨h1,h2,h3,h4,fun t ht=> ?_⟩
 simp only[Lr.tell]at ht ⊢
 simp only[mQ,Bool.and_eq_true,decide_eq_true_eq]at hm
 by_cases hs:s=t
 ·subst hs;omega
 ·rw[if_neg hs]at ht;exact h5 t ht
structure LB (c:Ctx):Prop where
 ki:tZ c.P (c.Ty 2) kI
 kp:tZ c.P (c.Ty 3) kP
section
variable (c:Ctx) (hc:sF c) (hT:LB c) {H:aa} {K:Value→aa→Prop}
include hc hT in
theorem Ww {p r1 r2:Nat}{l:Lr}{s:Int}{v:ByteArray}(h:IM H p r1 r2 l)(hK:K (.bool (mQ l s v)) H):c.C (c.F yo) [.pointer (some ⟨p,0,none⟩),.int .i64 s,.string v] H K:=by
 refine c.enter hc.AX rfl ?_
 have hg:=h.get
 have hv:v.data.size=v.size:=rfl
 unfold mQ at hK
 by_cases h1:s<l.base
 ·have: ¬ l.base≤s:=by omega
  simp only[this,decide_false,Bool.false_and]at hK
  simp -implicitDefEqProofs [dP,aT,hg,h1]
  exact hK
 ·have h1':l.base≤s:=by omega
  by_cases h2:1024≤s
  ·have: ¬ s<1024:=by omega
   simp only[this,decide_false,Bool.false_and,Bool.and_false]at hK
   simp -implicitDefEqProofs [dP,aT,hg,h1,h2]
   exact hK
  ·have h2':s<1024:=by omega
   by_cases h3:4096<v.size
   ·have: ¬ v.size≤4096:=by omega
    have h3':(4096:Int)<(v.size:Int):=by omega
    simp only[this,decide_false,Bool.false_and,Bool.and_false]at hK
    simp -implicitDefEqProofs [dP,aT,hg,h1,h2,hv,h3,h3']
    exact hK
   ·have h3': ¬ (4096:Int)<(v.size:Int):=by omega
    have h4:v.size≤4096:=by omega
    simp only[h1',h2',h4,decide_true,Bool.true_and]at hK
    have hlk:=fun z=>h.told.look hT.ki s z true
    simp only[kI]at hlk
    simp -implicitDefEqProofs [dP,aT,hg,h1,h2,hv,h3,h3',hlk]
    cases ht:l.told s with
    |none=>rw[ht]at hK;simp -implicitDefEqProofs [];exact hK
    |some x=>rw[ht]at hK;simp -implicitDefEqProofs [];exact hK
include hc hT in
theorem LC {p r1 r2:Nat}{l:Lr}(h:IM H p r1 r2 l)(hK: ∀s,zH l s→K (.int .i64 s) H):c.C (c.F om) [.pointer (some ⟨p,0,none⟩)] H K:=by
 refine c.enter hc.zG rfl ?_
 have hg:=h.get
 obtain⟨k1,k2,k3,k4,k5⟩:=h.ok
 simp -implicitDefEqProofs [jJ,aT,hg]
 refine aS c.mono (fun m T H'=> ∃s:Int,H'=H∧l.base≤s∧s≤1024∧m=(1024-s).toNat∧T 0 = .pointer (some ⟨p,0,none⟩)∧T 3 = .int .i64 s∧∀t,l.base≤t→t<s→l.told t≠none) (1024-l.base).toNat ?_ ?_
 ·exact⟨l.base,rfl,by omega,by omega,rfl,by simp -implicitDefEqProofs [],by simp -implicitDefEqProofs [],fun t h1 h2=>by omega⟩
 ·rintro m T H' ⟨s,rfl,hs1,hs2,rfl,t0,t3,hall⟩
  have hlk:=fun z=>h.told.look hT.ki s z true
  simp only[kI]at hlk
  simp -implicitDefEqProofs [t0,t3,hg,hlk]
  cases ht:l.told s with
  |none=>
   simp -implicitDefEqProofs [t3]
   exact hK s ⟨hs1,hs2,ht,hall⟩
  |some x=>
   have:=k5 s (by rw[ht];simp)
   have hw:IntKind.i64.wrap (s+1)=s+1:=wrap64 (by omega) (by omega)
   simp -implicitDefEqProofs [hw,t3]
   refine⟨_,by omega,s+1,by omega,by omega,rfl,t0,rfl,fun t h1 h2=> ?_⟩
   by_cases he:t=s
   ·subst he;rw[ht];simp
   ·exact hall t h1 (by omega)
include hc in
theorem Wx {p r1 r2:Nat}{l:Lr}(h:IM H p r1 r2 l)(hK:K (.int .i64 l.base) H):c.C (c.F oh) [.pointer (some ⟨p,0,none⟩)] H K:=by
 refine c.enter hc.zF rfl ?_
 have hg:=h.get
 simp -implicitDefEqProofs [jI,aT,hg]
 exact hK
include hc hT in
theorem UD {p r1 r2:Nat}{l:Lr}{s:Int}(h:IM H p r1 r2 l)
 (hK: ∀H',aa.upd [r2] H H'→IM H' p r1 r2 {l with ai:=fun k=>if k.1=s∧0≤k.2∧k.2<l.n then none else l.ai k}→K (.tuple #[]) H'):
 c.C (c.F uJ) [.pointer (some ⟨p,0,none⟩),.int .i64 s] H K:=by
 refine c.enter hc.xI rfl ?_
 have hg:=h.get
 have hp:=h.lt
 have hne:=h.ME
 obtain⟨k1,k2,k3,k4,k5⟩:=h.ok
 simp -implicitDefEqProofs [iW,hg]
 refine aS c.mono (fun m T H'=> ∃i:Nat,(i:Int)≤l.n∧m=(l.n-i).toNat∧T 0 = .pointer (some ⟨p,0,none⟩)∧T 1 = .int .i64 s∧T 8 = .int .i64 l.n∧T 9 = .int .i64 i∧aa.upd [r2] H H' ∧
  IsMap H' r2 kP vV fun k=>if k.1=s∧0≤k.2∧k.2<(i:Int)then none else l.ai k) l.n.toNat ?_ ?_
 ·refine⟨0,by omega,by omega,?_⟩
  simp -implicitDefEqProofs []
  refine⟨aa.iE _ _,?_⟩
  have:(fun k:Int×Int=>if k.1=s∧0≤k.2∧k.2<0 then none else l.ai k)=l.ai:=by
   funext k;rw[if_neg (by omega)]
  rw[this];exact h.ai
 ·rintro m T H' ⟨i,hi,rfl,t0,t1,t8,t9,hu,hm⟩
  have hg':=(hu.get p hp (by simpa using hne)).trans hg
  by_cases hin:(i:Int)<l.n
  ·obtain⟨o,e,hm'⟩:=hm.del hT.kp (s,(i:Int))
   have hw:IntKind.i64.wrap ((i:Int)+1)=(i:Int)+1:=wrap64 (by omega) (by omega)
   simp only[kP]at e
   simp -implicitDefEqProofs [t0,t1,t8,t9,hin,hg',bu,putAt,e,hw]
   refine⟨l.n.toNat-(i+1),by omega,i+1,by omega,rfl,by omega,hu.set (.inr (by simp)) _,?_⟩
   have:(fun k:Int×Int=>if k.1=s∧0≤k.2∧k.2<((i+1:Nat):Int)then none else l.ai k)=fun k'=>if (s,(i:Int))=k' then none else if k'.1=s∧0≤k'.2∧k'.2<(i:Int)then none else l.ai k':=by
    funext k
    by_cases hk:(s,(i:Int))=k
    ·subst hk;rw[if_pos rfl,if_pos (show s=s∧(0:Int)≤(i:Int)∧(i:Int)<((i+1:Nat):Int)from⟨rfl,by omega,by omega⟩)]
    ·rw[if_neg hk]
     by_cases h2:k.1=s∧0≤k.2∧k.2<(i:Int)
     ·rw[if_pos h2,if_pos (by omega)]
     ·rw[if_neg h2,if_neg]
      rintro⟨a1,a2,a3⟩
      apply hk
      obtain⟨x,y⟩:=k
      simp only at a1 a2 a3 h2
      have:y=i:=by omega
      rw[a1,this]
   rw[this];exact hm'
  ·have hie:(i:Int)=l.n:=by omega
   simp -implicitDefEqProofs [t0,t1,t8,t9,hin]
   rw[hie]at hm
   refine hK _ hu ⟨Nat.lt_of_lt_of_le hp hu.next,h.ok,hg',h.told.same hu.next (hu.get r1 h.told.lt (by simpa using h.ne)),hm,h.ne⟩
include hc hT in
theorem TE {p r1 r2:Nat}{l:Lr}{s:Int}{v:ByteArray}(h:IM H p r1 r2 l)
 (hK: ∀H',aa.upd [p,r1,r2] H H'→IM H' p r1 r2 (if mQ l s v=true then l.tell s v else l)→K (.bool (mQ l s v)) H'):
 c.C (c.F nZ) [.pointer (some ⟨p,0,none⟩),.int .i64 s,.string v] H K:=by
 refine c.enter hc.zC rfl ?_
 have hg:=h.get
 simp -implicitDefEqProofs [jG]
 refine av (Ww c hc hT h ?_)
 by_cases hm:mQ l s v=true
 ·rw[if_pos hm,hm]at hK
  obtain⟨o,e,hm'⟩:=h.told.put hT.ki s v
  simp only[kI,gS]at e
  simp -implicitDefEqProofs [hm,hg,e]
  have hl':IM (H.set r1 o) p r1 r2 {l with told:=fun s'=>if s=s' then some v else l.told s'}:=by
   refine⟨h.lt,?_,by rw[YW,if_neg h.ne1];exact hg,hm',h.ai.same (Nat.le_refl _) (by rw[YW,if_neg (Ne.symm h.ne)]),h.ne⟩
   exact h.ok.tell hm
  refine av (UD c hc hT hl' fun H' u' w'=> ?_)
  simp -implicitDefEqProofs []
  refine hK _ ?_ w'
  exact((aa.iE _ H).set (.inr (by simp)) o).trans ⟨u'.next,fun b hb hs=>u'.get b hb (by simp at hs ⊢;exact hs.2.2)⟩
 ·rw[if_neg hm]at hK
  have hmf:mQ l s v=false:=by simpa using hm
  simp -implicitDefEqProofs [hmf]
  rw[hmf]at hK
  exact hK _ (aa.iE _ _) h
def Lr.trim (l:Lr)(b:Int):Lr:={l with base:=b,told:=fun s=>if l.base≤s∧s<b then none else l.told s}
include hc hT in
theorem Zg {p r1 r2:Nat}{l:Lr}{u:Int}(h:IM H p r1 r2 l)
 (hK: ∀H' b,aa.upd [p,r1,r2] H H'→l.base≤b→b≤1024→(∀s,zH l s→b=if (if s<u then s else u)<l.base then l.base else (if s<u then s else u))→IM H' p r1 r2 (l.trim b)→K (.int .i64 (b-l.base)) H'):
 c.C (c.F og) [.pointer (some ⟨p,0,none⟩),.int .i64 u] H K:=by
 refine c.enter hc.zD rfl ?_
 have hg:=h.get
 obtain⟨k1,k2,k3,k4,k5⟩:=h.ok
 simp -implicitDefEqProofs [jH,aT,hg]
 refine av (LC c hc hT h fun s hs=> ?_)
 have hsn:=hs
 obtain⟨s1,s2,s3,s4⟩:=hs
 obtain⟨U,hU⟩: ∃U,U=if s<u then s else u:=⟨_,rfl⟩
 have hUs:U≤1024:=by rw[hU];split <;> omega
 have hle: ∀b,l.base≤b→b≤1024→(l.trim b).ok:=fun b h1 h2=>⟨k1,k2,by simp only[Lr.trim];omega,h2,fun t ht=>by
  simp only[Lr.trim]at ht ⊢
  by_cases hb:l.base≤t∧t<b
  ·rw[if_pos hb]at ht;exact absurd rfl ht
  ·rw[if_neg hb]at ht
   have:=k5 t ht
   omega⟩
 simp -implicitDefEqProofs [←hU]
 refine aS c.mono (fun m T H'=> ∃b:Int,l.base≤b∧(b≤U∨b=l.base)∧b≤1024∧m=(U-b).toNat∧T 0 = .pointer (some ⟨p,0,none⟩)∧T 1 = .int .i64 U∧T 5 = .int .i64 (b-l.base)∧aa.upd [p,r1,r2] H H'∧IM H' p r1 r2 (l.trim b)) (U-l.base).toNat ?_ ?_
 ·refine⟨l.base,by omega,.inr rfl,by omega,rfl,?_⟩
  simp -implicitDefEqProofs []
  refine⟨aa.iE _ _,?_⟩
  have:l.trim l.base=l:=by
   unfold Lr.trim
   congr 1
   funext s;rw[if_neg (by omega)]
  rw[this];exact h
 ·rintro m T H' ⟨b,hb1,hb2,hb3,rfl,t0,t1,t5,hu,hl⟩
  have hg':=hl.get
  simp only[Lr.trim]at hg'
  by_cases hbU:b<U
  ·have hw:IntKind.i64.wrap (b+1)=b+1:=wrap64 (by omega) (by omega)
   have hw2:IntKind.i64.wrap (b-l.base+1)=b-l.base+1:=wrap64 (by omega) (by omega)
   obtain⟨o,e,hm'⟩:=hl.told.del hT.ki b
   simp only[kI]at e
   have hg2:(H'.set r1 o).get p=some (.cells [.int .i64 l.n,.int .i64 b,.map (some r1),.map (some r2)] false):=by rw[YW,if_neg hl.ne1];exact hg'
   have hn1:=hl.ne1
   simp -implicitDefEqProofs [t0,t1,t5,hg',hbU,e,hn1,hw,hw2]
   refine⟨(U-(b+1)).toNat,by omega,b+1,by omega,.inl (by omega),by omega,rfl,by omega,(hu.set (.inr (by simp)) _).set (.inr (by simp)) _,?_⟩
   refine⟨hl.lt,hle _ (by omega) (by omega),by rw[YW,if_pos rfl];rfl,?_,?_,hl.ne⟩
   ·have h1:=hm'.same (H':=(H'.set r1 o).set p (.cells [.int .i64 l.n,.int .i64 (b+1),.map (some r1),.map (some r2)] false)) (Nat.le_refl _) (by rw[YW,if_neg (Ne.symm hn1)])
    have:(fun k'=>if b=k' then none else (l.trim b).told k')=(l.trim (b+1)).told:=by
     funext k
     simp only[Lr.trim]
     by_cases h1:b=k
     ·rw[if_pos h1,if_pos (by omega)]
     ·rw[if_neg h1]
      by_cases h2:l.base≤k∧k<b
      ·rw[if_pos h2,if_pos (by omega)]
      ·rw[if_neg h2,if_neg (by omega)]
    rw[this]at h1;exact h1
   ·exact hl.ai.same (Nat.le_refl _) (by rw[YW,if_neg (Ne.symm hl.ME),YW,if_neg (Ne.symm hl.ne)])
  ·simp -implicitDefEqProofs [t0,t1,t5,hg',hbU]
   exact hK _ b hu hb1 hb3 (fun s' hs'=>by rw[hs'.uniq hsn,←hU];split <;> omega) hl
include hc hT in
theorem qax {p r1 r2:Nat}{l:Lr}{u:Int}(h:IM H p r1 r2 l)
 (hK: ∀(nx:Int) (v:Value) (vals:List ByteArray) H',zH l nx→H.le H'→Grow H' H.next 1 v (vals.map fun x=>[.string x])→vals.length=(nx-(if u<l.base then l.base else u)).toNat →
   (∀(i:Nat) (hi:i<vals.length),l.told ((if u<l.base then l.base else u)+i)=some vals[i])→K v H'):
 c.C (c.F pz) [.pointer (some ⟨p,0,none⟩),.int .i64 u] H K:=by
 refine c.enter hc.AV rfl ?_
 have hg:=h.get
 have hp:=h.lt
 obtain⟨k1,k2,k3,k4,k5⟩:=h.ok
 obtain⟨st,hst⟩: ∃st,st=if u<l.base then l.base else u:=⟨_,rfl⟩
 have qcI:l.base≤st:=by rw[hst];split <;> omega
 rw[←hst]at hK
 have hmx:(if l.base>u then l.base else u)=st:=by rw[hst]
 simp -implicitDefEqProofs [jW,aT,hg,←hst]
 refine aS c.mono (fun m T H'=> ∃(i:Nat) (v:Value) (vals:List ByteArray),m=(1024-(st+i)).toNat∧(i=0∨∀nx,zH l nx→st+i≤nx)∧T 0 = .pointer (some ⟨p,0,none⟩)∧T 5=v∧T 6 = .int .i64 (st+i)∧H.le H' ∧
  Grow H' H.next 1 v (vals.map fun x=>[.string x])∧vals.length=i∧∀(j:Nat) (hj:j<vals.length),l.told (st+j)=some vals[j]) (1024-st).toNat ?_ ?_
 ·refine⟨0,.slice none 0 0,[],by omega,.inl rfl,?_⟩
  simp -implicitDefEqProofs []
  exact⟨aa.le_refl _,Grow.nil _ _ _⟩
 ·rintro m T H' ⟨i,v,vals,rfl,hi1,t0,t5,t6,hle,hgr,hvl,hall⟩
  simp -implicitDefEqProofs [t0,t5,t6]
  refine av (LC c hc hT (h.le hle) fun nx hnx=> ?_)
  have qb8:=hnx
  obtain⟨x1,x2,x3,x4⟩:=qb8
  by_cases hlt:st+i<nx
  ·have hg':=(h.le hle).get
   have hlk:=fun z=>(h.le hle).told.look hT.ki (st+i) z false
   simp only[kI]at hlk
   have hw:IntKind.i64.wrap (st+(i:Int)+1)=st+(i:Int)+1:=wrap64 (by omega) (by omega)
   cases ht:l.told (st+i)with
   |none=>exact absurd ht (x4 _ (by omega) hlt)
   |some x=>
    rw[ht]at hlk
    simp only[Bool.false_eq_true,if_false,gS]at hlk
    have hnn:=hle.next
    simp -implicitDefEqProofs [t0,t5,t6,hlt,hg',hlk,bG,aZ,aa.aP]
    obtain⟨v3,H3,e3,o3,k3⟩:=(hgr.le (H'.aj (.cells [.string x] false))).AJ (bytes:=16) (new:=[.string x]) (by simp only[YX];omega) (by omega) (by omega) (by simp;omega) (by simp;omega) rfl rfl
    simp -implicitDefEqProofs [e3,t6,hw,t0]
    refine⟨(1024-(st+((i+1:Nat):Int))).toNat,by omega,i+1,rfl,.inr fun nx' h'=>by(have:=h'.uniq hnx);omega,by omega,hle.then (((H'.aj _).keep (by omega)).trans k3) (Nat.le_refl _),vals++[x],by rw[List.map_append];exact o3,by simp[hvl],?_⟩
    intro j hj
    by_cases hj2:j<vals.length
    ·rw[List.getElem_append_left hj2];exact hall j hj2
    ·have:j=vals.length:=by simp at hj;omega
     subst this
     rw[List.getElem_append_right (by omega)]
     simp only[Nat.sub_self,List.getElem_cons_zero]
     rw[hvl];exact ht
  ·simp -implicitDefEqProofs [t0,t5,t6,hlt]
   refine hK nx v vals H' ⟨x1,x2,x3,x4⟩ hle hgr ?_ hall
   rcases hi1 with hi1|hi1
   ·omega
   ·have:=hi1 nx hnx
    omega
end
def fl (n:Nat):Nat:=[0,4607182418800017408,4611686018427387904,4613937818241073152,4616189618054758400,4617315517961601024,4618441417868443648,4619567317775286272].getD n 0
def cx (a b:Nat):Value:=.complex .f64 (fl a) (fl b)
structure OC (c:Ctx):Prop where
 one: ∀(ρ:Operand→Value) (a b:Nat),a≤6→b≤6→ρ (.tmp 29)=cx a b→ρ (.const (.complex .f64 0 4607182418800017408)) = .complex .f64 0 4607182418800017408 →
  aB c.P (execOp ρ ⟨none,.binOp .add (c.Ty 4) (.tmp 29) (.const (.complex .f64 0 4607182418800017408)) (c.Ty 4),c.Ty 4, "",#[],none⟩)=some (.value (cx a (b+1)))
 two: ∀(ρ:Operand→Value) (a b:Nat),a≤6→b≤7→ρ (.tmp 34)=cx a b→ρ (.const (.complex .f64 4607182418800017408 0)) = .complex .f64 4607182418800017408 0 →
  aB c.P (execOp ρ ⟨none,.binOp .add (c.Ty 4) (.tmp 34) (.const (.complex .f64 4607182418800017408 0)) (c.Ty 4),c.Ty 4, "",#[],none⟩)=some (.value (cx (a+1) b))
 re: ∀(ρ:Operand→Value) (a b:Nat),a≤7→b≤7→ρ (.tmp 65)=cx a b →
  aB c.P (execOp ρ ⟨none,.call ⟨.builtin .real,#[.tmp 65],#[c.Ty 4]⟩,c.Ty 5, "",#[],none⟩)=some (.value (.float .f64 (fl a)))
 int: ∀(ρ:Operand→Value) (a:Nat),a≤7→ρ (.tmp 66) = .float .f64 (fl a) →
  aB c.P (execOp ρ ⟨none,.convert (c.Ty 5) (c.Ty 2) (.tmp 66),c.Ty 2, "",#[],none⟩)=some (.value (.int .i64 a))
def cnt (m:Int×Int→Option ay)(v:ay):Nat→Nat
 |0=>0
 |i+1=>cnt m v i+(if m (v.slot,(i:Int))=some v then 1 else 0)
theorem Sv (m:Int×Int→Option ay)(v:ay): ∀i,cnt m v i≤i
 |0=>Nat.le_refl _
 |i+1=>by have:=Sv m v i;unfold cnt;split <;> omega
def TF (m:Int×Int→Option ay)(v:ay):Nat→Nat
 |0=>0
 |i+1=>TF m v i+(if m (v.slot,(i:Int))=none then 0 else 1)
theorem Sw (m:Int×Int→Option ay)(v:ay): ∀i,TF m v i≤i
 |0=>Nat.le_refl _
 |i+1=>by have:=Sw m v i;unfold TF;split <;> omega
theorem Wy {P:Program}{C:bS}{o:Op}{ty:TypeId}{d:Option Nat}{os:List aN}{K:Env→aa→Prop}{T:Env}{H:aa}{v:Value}(h:aB P (execOp (ev T) ⟨none,o,ty, "",#[],none⟩)=some (.value v))
 (ho:o.operands.toList.all (fun x=>lV (ev T x))=true) (hs:lV v=true) (hk:fe P C os K (T.put d v) H):Ui P C (bL P T H (.raw o ty)) d os K T H:=by
 rw[bL.eq_1,if_pos ho,h]
 simp only[hs,if_true]
 exact⟨v,rfl,hk⟩
theorem TG {P:Program}{C:bS}{o:Op}{ty:TypeId}{d:Option Nat}{st:List aN}{os:List (aN×List aN)}{K:Env→aa→Prop}{T:Env}{H:aa}{v:Value}(h:aB P (execOp (ev T) ⟨none,o,ty, "",#[],none⟩)=some (.value v))
 (ho:o.operands.toList.all (fun x=>lV (ev T x))=true) (hs:lV v=true) (hk:dx P (T.put d v) H st∧bM P C os K (T.put d v) H):dO P C (bL P T H (.raw o ty)) d st os K T H:=by
 rw[bL.eq_1,if_pos ho,h]
 simp only[hs,if_true]
 exact⟨v,rfl,hk⟩
section
variable (c:Ctx) (hc:sF c) (hT:LB c) (hN:OC c) {H:aa} {K:Value→aa→Prop}
include hc hT hN in
theorem Wz {p r1 r2:Nat}{l:Lr}{v:ay}(h:IM H p r1 r2 l)(hK: ∀H',H.le H'→K (cx (cnt l.ai v l.n.toNat) (TF l.ai v l.n.toNat)) H'):
 c.C (c.F vO) [.pointer (some ⟨p,0,none⟩),vV v] H K:=by
 refine c.enter hc.yu rfl ?_
 have hg:=h.get
 have hp:=h.lt
 have hpn:p≠H.next:=by omega
 obtain⟨k1,k2,k3,k4,k5⟩:=h.ok
 simp -implicitDefEqProofs [ji,vV,hg,hpn]
 refine aS c.mono (fun m T H'=> ∃i:Nat,(i:Int)≤l.n∧m=l.n.toNat-i∧T 0 = .pointer (some ⟨p,0,none⟩)∧T 3 = .pointer (some ⟨H.next,0,none⟩)∧T 5=cx (cnt l.ai v i) (TF l.ai v i)∧T 12 = .int .i64 l.n∧T 13 = .int .i64 i ∧
  H.le H'∧H.next<H'.next∧H'.get H.next=some (.cells [.int .i64 v.slot,.int .i64 v.a,.int .i64 v.n,.string v.val] false)) l.n.toNat ?_ ?_
 ·refine⟨0,by omega,rfl,?_⟩
  simp -implicitDefEqProofs []
  exact⟨rfl,H.aj _⟩
 ·rintro m T H' ⟨i,hi,rfl,t0,t3,t5,t12,t13,hle,hn,hgv⟩
  have hg':=(h.le hle).get
  by_cases hin:(i:Int)<l.n
  ·have hw:IntKind.i64.wrap ((i:Int)+1)=(i:Int)+1:=wrap64 (by omega) (by omega)
   have hlk:=fun z=>(h.le hle).ai.look hT.kp (v.slot,(i:Int)) z true
   simp only[kP]at hlk
   have c1:=Sv l.ai v i
   have c2:=Sw l.ai v i
   have hnn:H'.next≠H.next:=by omega
   simp -implicitDefEqProofs [t0,t3,t5,t12,t13,hin,hg',hgv,hlk,hnn]
   have hle2: ∀x y,H.le ((H'.alloc x).set H'.next y):=fun x y=>(hle.alloc _).set (by omega) _
   cases hx:l.ai (v.slot,(i:Int))with
   |none=>
    have e1:cnt l.ai v (i+1)=cnt l.ai v i:=by simp[cnt,hx]
    have e2:TF l.ai v (i+1)=TF l.ai v i:=by simp[TF,hx]
    simp -implicitDefEqProofs [t0,t3,t5,t12,t13,hw,hgv,hnn,Ne.symm hnn]
    refine⟨l.n.toNat-(i+1),by omega,i+1,by omega,rfl,by rw[e1,e2],by simp,hle2 _ _,by omega⟩
   |some x=>
    have e2:TF l.ai v (i+1)=TF l.ai v i+1:=by simp[TF,hx]
    simp -implicitDefEqProofs [t0,t3,t5,t12,t13,hw,vV]
    refine Wy (hN.one _ (cnt l.ai v i) (TF l.ai v i) (by omega) (by omega) (by simp -implicitDefEqProofs []) rfl) (by simp[Op.operands,Yz,YA,YC,cx,lV,qQ]) rfl ?_
    simp -implicitDefEqProofs [t0,t3,t5,t12,t13,hw,hgv,hnn,Ne.symm hnn]
    have heq:(decide (x.slot=v.slot)&&(decide (x.a=v.a)&&(decide (x.n=v.n)&&decide (x.val=v.val))))=decide (x=v):=by
     obtain⟨a1,a2,a3,a4⟩:=x
     obtain⟨b1,b2,b3,b4⟩:=v
     simp only[ay.mk.injEq]
     by_cases a1=b1 <;> by_cases a2=b2 <;> by_cases a3=b3 <;> by_cases a4=b4 <;> simp_all
    rw[heq]
    by_cases hxv:x=v
    ·have e1:cnt l.ai v (i+1)=cnt l.ai v i+1:=by simp[cnt,hx,hxv]
     simp only[hxv,decide_true]
     simp -implicitDefEqProofs []
     refine Wy (hN.two _ (cnt l.ai v i) (TF l.ai v i+1) (by omega) (by omega) (by simp -implicitDefEqProofs []) rfl) (by simp[Op.operands,Yz,YA,YC,cx,lV,qQ]) rfl ?_
     simp -implicitDefEqProofs [t0,t3,t5,t12,t13,hw,hgv,hnn,Ne.symm hnn]
     refine⟨l.n.toNat-(i+1),by omega,i+1,by omega,rfl,by rw[e1,e2],by simp,hle2 _ _,by omega⟩
    ·have e1:cnt l.ai v (i+1)=cnt l.ai v i:=by simp[cnt,hx,hxv]
     simp only[hxv,decide_false]
     simp -implicitDefEqProofs [t0,t3,t5,t12,t13,hw,hgv,hnn,Ne.symm hnn]
     refine⟨l.n.toNat-(i+1),by omega,i+1,by omega,rfl,by rw[e1,e2],by simp,hle2 _ _,by omega⟩
  ·have hie:i=l.n.toNat:=by omega
   simp -implicitDefEqProofs [t0,t3,t5,t12,t13,hin]
   rw[hie]
   exact hK _ hle
def Lr.mG (l:Lr)(fr:Int)(v:ay):Lr:={l with ai:=fun k=>if (v.slot,fr)=k then some v else l.ai k}
def l5 (l:Lr)(fr:Int)(v:ay):Bool:=mQ l v.slot v.val&&(decide (0≤fr)&&(decide (fr<l.n)&&(bJ v.a v.n&&match l.ai (v.slot,fr)with
 |some was=>decide (lX was.a was.n v.a v.n<0)
 |none=>true)))
def Lr.hear (l:Lr)(fr:Int)(v:ay):Lr×Bool:=
 if l5 l fr v=true then
  if (cnt (l.mG fr v).ai v l.n.toNat:Int)<aO l.n then (l.mG fr v,false)else ((l.mG fr v).tell v.slot v.val,true)
 else (l,false)
include hc hT hN in
theorem Zh (hA:iG c)(hB:bN c){p r1 r2:Nat}{l:Lr}{fr:Int}{v:ay}(h:IM H p r1 r2 l)
 (hK: ∀H',aa.upd [p,r1,r2] H H'→IM H' p r1 r2 (l.hear fr v).1→K (.bool (l.hear fr v).2) H'):
 c.C (c.F nY) [.pointer (some ⟨p,0,none⟩),.int .i64 fr,vV v] H K:=by
 refine c.enter hc.zB rfl ?_
 have hp:=h.lt
 have hpn:p≠H.next:=by omega
 have hu0: ∀H',H.le H'→aa.upd [p,r1,r2] H H':=fun H' hl=>hl.upd _
 have hg:=h.get
 have bad:l5 l fr v=false→l.hear fr v=(l,false):=fun e=>by unfold Lr.hear;rw[e];rfl
 have hA1:=h.le (H.aj (.cells [.int .i64 v.slot,.int .i64 v.a,.int .i64 v.n,.string v.val] false))
 obtain⟨cT,hcT⟩: ∃cT:qR,cT=(.seq (.draw [(⟨some 57,.move (.tmp 0),none⟩,[]),(⟨some 58,.nilCheck (.tmp 57),none⟩,[]),(⟨some 59,.fieldAddr 3 (.tmp 58),none⟩,[]),(⟨some 60,.ah (.tmp 59),none⟩,[]),(⟨some 61,.ak 2 (.tmp 7),none⟩,[]),(⟨some 62,.ak 4 (.tmp 5),none⟩,[]),(⟨none,.mapUpdate (c.Ty 3) (.tmp 60) (.tmp 61) (.tmp 62),none⟩,[])]) (.seq (.seq (.draw [(⟨some 63,.move (.tmp 0),none⟩,[]),(⟨some 64,.ak 4 (.tmp 5),none⟩,[]),(⟨some 68,.move (.tmp 0),none⟩,[]),(⟨some 69,.nilCheck (.tmp 68),none⟩,[]),(⟨some 70,.fieldAddr 0 (.tmp 69),none⟩,[]),(⟨some 71,.ah (.tmp 70),none⟩,[]),(⟨some 65,.call (c.F 90) [.tmp 63,.tmp 64],none⟩,[⟨some 71,.ah (.tmp 70),none⟩]),(⟨some 66,.raw (.call ⟨.builtin .real,#[.tmp 65],#[(c.Ty 4)]⟩) (c.Ty 5),none⟩,[]),(⟨some 67,.raw (.convert (c.Ty 5) (c.Ty 2) (.tmp 66)) (c.Ty 2),none⟩,[]),(⟨some 72,.call (c.F 7) [.tmp 71],none⟩,[]),(⟨some 73,.bin .lss (.tmp 67) (.tmp 72),none⟩,[])]) (.cond (.tmp 73) (.seq (.ops [⟨some 6,.move (.const (.bool false)),none⟩]) (.ret)) (.skip))) (.seq (.ops [⟨some 74,.move (.tmp 0),none⟩,⟨some 75,.fieldAddr 0 (.tmp 5),none⟩,⟨some 76,.ah (.tmp 75),none⟩,⟨some 77,.fieldAddr 3 (.tmp 5),none⟩,⟨some 78,.ah (.tmp 77),none⟩,⟨some 79,.call (c.F 84) [.tmp 74,.tmp 76,.tmp 78],none⟩,⟨some 6,.move (.tmp 79),none⟩]) (.ret)))):=⟨_,rfl⟩
 simp only[jF,←hcT]
 simp -implicitDefEqProofs [vV]
 refine av (Ww c hc hT hA1 ?_)
 by_cases hm:mQ l v.slot v.val=true
 ·by_cases hf0:fr<0
  ·have e:=bad (by unfold l5;have: ¬ 0≤fr:=by omega
                   simp[this])
   simp -implicitDefEqProofs [hm,hf0,hg,hpn]
   rw[e]at hK
   exact hK _ (hu0 _ (H.aj _)) hA1
  ·by_cases hfn:l.n≤fr
   ·have e:=bad (by unfold l5;have: ¬ fr<l.n:=by omega
                    simp[this])
    simp -implicitDefEqProofs [hm,hf0,hfn,hg,hpn]
    rw[e]at hK
    exact hK _ (hu0 _ (H.aj _)) hA1
   ·simp -implicitDefEqProofs [hm,hf0,hfn,hg,hpn]
    refine av (zq c hA fun H1 h1=> ?_)
    have hH1:H.le H1:=(H.aj _).trans h1
    have n1:=h1.next
    simp only[YX]at n1
    have g5:H1.get H.next=some (.cells [.int .i64 v.slot,.int .i64 v.a,.int .i64 v.n,.string v.val] false):=by
     rw[h1.get _ (by simp only[YX];omega)];simp -implicitDefEqProofs []
    have hL1:=h.le hH1
    by_cases hv:bJ v.a v.n=true
    ·have hlk:=fun z o1 o2=>(hL1.le ((H1.aj o1).set (Nat.le_refl _) o2)).ai.look hT.kp (v.slot,fr) z true
     simp only[kP]at hlk
     have hgp:=hL1.get
     have qb9:p≠H1.next:=by omega
     have h51:H.next≠H1.next:=by omega
     simp -implicitDefEqProofs [hv,g5,hgp,qb9,h51,hlk]
     have main: ∀(T:Env) (H2:aa),H.le H2→l5 l fr v=true→T 0 = .pointer (some ⟨p,0,none⟩)→T 1 = .int .i64 fr→T 5 = .pointer (some ⟨H.next,0,none⟩)→T 7 = .pointer (some ⟨H1.next,0,none⟩)→H1.next<H2.next →
      H2.get H.next=some (.cells [.int .i64 v.slot,.int .i64 v.a,.int .i64 v.n,.string v.val] false)→H2.get H1.next=some (.cells [.int .i64 v.slot,.int .i64 fr] false)→AQ c.P c.C cT (V6 [.tmp 6] K) T H2:=by
      intro T H2 le2 hfr t0 t1 t5 t7 n2 g52 g7
      have hL2:=h.le le2
      have hput: ∃o,Uk c.P H2 (c.Ty 3) (.map (some r2)) (kP (v.slot,fr)) (vV v)=some (undef,H2.set r2 o)∧IsMap (H2.set r2 o) r2 kP vV fun k'=>if (v.slot,fr)=k' then some v else l.ai k':=hL2.ai.put hT.kp (v.slot,fr) v
      obtain⟨o,e,hm'⟩:=hput
      simp only[kP,vV]at e
      have hL3:IM (H2.set r2 o) p r1 r2 (l.mG fr v):=⟨hL2.lt,hL2.ok,by rw[YW,if_neg hL2.ME];exact hL2.get,hL2.told.same (Nat.le_refl _) (by rw[YW,if_neg hL2.ne]),hm',hL2.ne⟩
      have hu3:aa.upd [p,r1,r2] H (H2.set r2 o):=(hu0 _ le2).set (.inr (by simp)) _
      have n5:r2≠H.next:=by have:=h.ai.lt;omega
      have g5':(H2.set r2 o).get H.next=some (.cells [.int .i64 v.slot,.int .i64 v.a,.int .i64 v.n,.string v.val] false):=by rw[YW,if_neg (Ne.symm n5)];exact g52
      have hg3:=hL3.get
      have hg2:=hL2.get
      simp only[Lr.mG]at hg3
      subst hcT
      have hne2:=hL2.ME
      simp -implicitDefEqProofs [t0,t1,t5,t7,hg2,g52,g7,e,hg3,g5',Ne.symm n5,hne2]
      refine aI c.mono (Wz c hc hT hN (v:=v) hL3 fun H4 h4=> ?_)
      have hg4:=(hL3.le h4).get
      simp only[Lr.mG]at hg4
      have c1:=Sv (l.mG fr v).ai v l.n.toNat
      have c2:=Sw (l.mG fr v).ai v l.n.toNat
      have hn0:(l.mG fr v).n=l.n:=rfl
      simp only[hn0]
      have ln7:=h.ok.2.1
      have ln1:=h.ok.1
      simp -implicitDefEqProofs [aQ,hg4,t0,t1,t5,t7]
      refine TG (hN.re _ (cnt (l.mG fr v).ai v l.n.toNat) (TF (l.mG fr v).ai v l.n.toNat) (by omega) (by omega) (by simp -implicitDefEqProofs [])) (by show List.all [Operand.tmp 65] _=true;simp[Yz,YC,cx,lV,qQ]) rfl ?_
      simp -implicitDefEqProofs []
      refine TG (hN.int _ (cnt (l.mG fr v).ai v l.n.toNat) (by omega) (by simp -implicitDefEqProofs [])) (by simp[Op.operands,Yz,YA,YC,cx,lV,qQ]) rfl ?_
      simp -implicitDefEqProofs []
      refine aI c.mono (AL c hB ?_)
      have g54:=(h4.get H.next (by simp only[YY];omega)).trans g5'
      by_cases hq:(cnt (l.mG fr v).ai v l.n.toNat:Int)<aO l.n
      ·have e:l.hear fr v=(l.mG fr v,false):=by unfold Lr.hear;rw[if_pos hfr,if_pos hq]
       simp -implicitDefEqProofs [hq]
       rw[e]at hK
       exact hK _ (hu3.trans (h4.upd _)) (hL3.le h4)
      ·have e:l.hear fr v=((l.mG fr v).tell v.slot v.val,true):=by unfold Lr.hear;rw[if_pos hfr,if_neg hq]
       have hm2:mQ (l.mG fr v) v.slot v.val=true:=hm
       simp -implicitDefEqProofs [hq,g54,t0,t5]
       refine av (TE c hc hT (hL3.le h4) fun H5 u5 w5=> ?_)
       rw[if_pos hm2]at w5
       rw[hm2]
       simp -implicitDefEqProofs []
       rw[e]at hK
       exact hK _ ((hu3.trans (h4.upd _)).trans u5) w5
     cases hx:l.ai (v.slot,fr)with
     |none=>
      have hfr:l5 l fr v=true:=by
       have q1:0≤fr:=by omega
       have q2:fr<l.n:=by omega
       simp[l5,hm,hv,hx,q1,q2]
      simp -implicitDefEqProofs []
      have q3:H.next≠H1.next+1:=by omega
      refine main _ _ ?_ hfr (by simp -implicitDefEqProofs []) (by simp -implicitDefEqProofs []) (by simp -implicitDefEqProofs []) (by simp -implicitDefEqProofs []) (by simp only[YX,YY];omega) (by simp -implicitDefEqProofs [g5,h51,q3]) (by simp -implicitDefEqProofs [])
      exact(((hH1.alloc _).set (by omega) _).alloc _).set (by omega) _
     |some was=>
      have q3:H.next≠H1.next+1:=by omega
      simp -implicitDefEqProofs [vV,g5,h51,q3]
      refine av (Lv c hA fun H3 h3=> ?_)
      have n3:=h3.next
      simp only[YX,YY]at n3
      have le3:H.le H3:=((((hH1.alloc _).set (by omega) _).alloc _).set (by omega) _).trans h3
      by_cases hcm:0≤lX was.a was.n v.a v.n
      ·have hfr:l5 l fr v=false:=by
        have: ¬ lX was.a was.n v.a v.n<0:=by omega
        simp[l5,hx,this]
       simp -implicitDefEqProofs [hcm]
       rw[bad hfr]at hK
       exact hK _ (hu0 _ le3) (h.le le3)
      ·have hfr:l5 l fr v=true:=by
        have q1:0≤fr:=by omega
        have q2:fr<l.n:=by omega
        have q4:lX was.a was.n v.a v.n<0:=by omega
        simp[l5,hm,hv,hx,q1,q2,q4]
       simp -implicitDefEqProofs [hcm]
       have k5':H3.get H.next=some (.cells [.int .i64 v.slot,.int .i64 v.a,.int .i64 v.n,.string v.val] false):=by
        rw[h3.get _ (by simp only[YX,YY];omega)];simp -implicitDefEqProofs [g5,h51,q3]
       have k7':H3.get H1.next=some (.cells [.int .i64 v.slot,.int .i64 fr] false):=by
        rw[h3.get _ (by simp only[YX,YY];omega)];simp -implicitDefEqProofs []
       exact main _ _ le3 hfr (by simp -implicitDefEqProofs []) (by simp -implicitDefEqProofs []) (by simp -implicitDefEqProofs []) (by simp -implicitDefEqProofs []) (by omega) k5' k7'
    ·have hvf:bJ v.a v.n=false:=by simpa using hv
     have e:=bad (by unfold l5;simp[hvf])
     simp -implicitDefEqProofs [hvf]
     rw[e]at hK
     exact hK _ (hu0 _ hH1) hL1
 ·have hmf:mQ l v.slot v.val=false:=by simpa using hm
  have e:=bad (by unfold l5;simp[hmf])
  simp -implicitDefEqProofs [hmf]
  rw[e]at hK
  exact hK _ (hu0 _ (H.aj _)) hA1
include hc in
theorem Zi (hB:bN c){n:Int}(h0:aO n=0→K (.pointer none) H)(h1:aO n≠0→∀p r1 r2 H',H.next≤p→H.next≤r1→H.next≤r2→H.le H'→IM H' p r1 r2 ⟨n,0,fun _=>none,fun _=>none⟩→K (.pointer (some ⟨p,0,none⟩)) H'):
 c.C (c.F De) [.int .i64 n] H K:=by
 refine c.enter hc.QB rfl ?_
 simp -implicitDefEqProofs [uK]
 refine av (AL c hB ?_)
 by_cases hq:aO n=0
 ·simp -implicitDefEqProofs [hq]
  exact h0 hq
 ·have hn:1≤n∧n≤7:=by
   unfold aO at hq
   split at hq
   ·simp at hq
   ·omega
  simp -implicitDefEqProofs [hq,bu,putAt]
  refine h1 hq _ H.next (H.next+1) _ (by omega) (Nat.le_refl _) (by omega) (((H.aj _).alloc _).alloc _) ⟨by simp only[YX];omega,⟨hn.1,hn.2,by simp,by simp,by simp⟩,by simp -implicitDefEqProofs [],?_,?_,by omega⟩
  ·exact(IsMap.new H kI gS).le (((aa.aj _ _)).alloc _)
  ·exact(IsMap.new (H.alloc (.map [] 0)) kP vV).le (aa.aj _ _)
end
end
end
end Go.Proofs.YtpbbjfighohokaaGreatI
