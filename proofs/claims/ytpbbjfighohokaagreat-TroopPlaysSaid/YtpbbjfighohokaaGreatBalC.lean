/- Nodes, and notes under way: what each function does. / Nodes, and notes under way: what each function does (second part). / Nodes, and notes under way: what arrives, is dropped, doubled. / Nodes, and notes under way: new ones; none. / PRINTED by gen.py (this session's own): the intermediate form of  -/
import Derived.Test.YtpbbjfighohokaaGreatTroD
import Derived.Test.YtpbbjfighohokaaGreatBalA
import Derived.Test.YtpbbjfighohokaaGreatIdealZ
import Derived.Test.YtpbbjfighohokaaGreatProD
namespace Go.Proofs.YtpbbjfighohokaaGreatI
open Go
set_option linter.unusedSimpArgs false
set_option linter.unusedVariables false
section
attribute [local simp] J0 J1 J2 J3 J4 J5 J6 J7 J8 J9 Ja Jb Jc Jd Je Jf Jg Jh Ji Jj Jk Jl Jm Jn Jo Jp Jq Jr Js Jt Ju Jv Jw Jx Jy Jz JA JB JC JD JE JF JG JH JI JJ JK JL JM JN JO JP JQ JR JS aQ bZ.kind JT JU JV JW JX JY JZ Y0 Y1 Y2 Y3 Y4 Y5 Y6 Y7 Y8 Y9 Ya Yb Yc Yd Ye Yf Yg Yh Yi Yj Yk Yl Ym Yn Yo Yp Yq jq Yr Ys Yt Yu Yv Yw Yx Yy dZ bA bE Yz YA YB YC YD YE eO YF YG YH YI YJ YK YL YM YN YO YP YQ YR YS YT YU nP bK jR nG bu putAt aa.ah aa.aP aa.aK YV YW YX YY YZ B0 B1 B2 B3 B4 B5 B6 B7 B8 B9 Ba Bb Bc Bd Be Bf Bg Bh Bi Bj Bk Bl Bm Bn Bo Bp
section
structure Tp.ok (n:Int)(S:Tp):Prop where
 q:aO n≠0
 len:(S.R.length:Int)=n
 node: ∀(i:Nat) (R:Rp),S.R[i]? =some R→R.ok∧R.n=n∧R.me=i
 way:S.way.length≤1024
 note: ∀x ∈ S.way,(0≤x.fr∧x.fr<n)∧(0≤x.to∧x.to<n)∧x.ai.length≤1024
def Tp.at (S:Tp)(i:Int):Option Rp:=if 0≤i then S.R[i.toNat]? else none
theorem Tp.kR {S:Tp}{i:Int}{R:Rp}(h:S.at i=some R):0≤i∧i.toNat<S.R.length∧S.R[i.toNat]? =some R:=by
 unfold Tp.at at h
 split at h
 ·exact⟨by assumption,(List.getElem?_eq_some_iff.1 h).1,h⟩
 ·cases h
theorem Tp.uo {S:Tp}{i:Int}(h:S.at i=none):i<0∨(S.R.length:Int)≤i:=by
 unfold Tp.at at h
 split at h
 ·have:=List.getElem?_eq_none_iff.1 h;omega
 ·omega
def OkW (n:Int)(l:List az):Prop:=∀x ∈ l,(0≤x.fr∧x.fr<n)∧(0≤x.to∧x.to<n)∧x.ai.length≤1024
theorem Tp.ok.say {n:Int}{S:Tp}(h:S.ok n){i:Nat}{R:Rp}{r:Rp×List az}(hi:S.R[i]? =some R)(h1:r.1.ok∧r.1.n=R.n∧r.1.me=R.me)(h2:OkW n r.2):(S.say i r).ok n:=by
 obtain⟨a1,a2,a3⟩:=h.node i R hi
 have hl:=(List.getElem?_eq_some_iff.1 hi).1
 refine⟨h.q,by unfold Tp.say;rw[List.length_set];exact h.len,fun j Q hj=> ?_,?_,fun x hx=> ?_⟩
 ·unfold Tp.say at hj
  by_cases he:i=j
  ·subst he
   simp only at hj
   rw[List.getElem?_set_self hl]at hj
   injection hj with hj
   subst hj
   exact⟨h1.1,h1.2.1.trans a2,h1.2.2.trans a3⟩
  ·simp only at hj
   rw[List.getElem?_set_ne he]at hj
   exact h.node j Q hj
 ·show(DX S.way r.2).length≤1024
  unfold DX
  have:=h.way
  rw[List.length_append,List.length_take]
  omega
 ·rcases List.mem_append.1 (show x ∈ S.way++_ from hx)with hx|hx
  ·exact h.note x hx
  ·exact h2 x (List.mem_of_mem_take hx)
theorem OkW.of {n:Int}{R:Rp}{l:List az}(h0:0≤R.me∧R.me<R.n)(hn:R.n=n)(h1: ∀y ∈ l,OkN R y)(h2:LK l):OkW n l:=fun y hy=>by
 obtain⟨a1,a2,a3,_⟩:=h1 y hy
 exact⟨⟨by omega,by omega⟩,⟨a2,by omega⟩,h2.2 y hy⟩
theorem Rp.ok.me {R:Rp}(h:R.ok):0≤R.me∧R.me<R.n:=by
 have:=h.1.2.1
 have:=h.1.2.2.1
 have:=h.2.1
 have:=h.2.2.1
 exact⟨by omega,by omega⟩
def qbu:LP:=⟨0,0,Pz,⟨0,0,0,0,0,0,[]⟩⟩
def WS (s:ByteArray):LP:=⟨1,0,s,⟨0,0,0,0,0,0,[]⟩⟩
def qbw (x:az):LP:=⟨2,0,Pz,x⟩
def qce (i:Int):LP:=⟨3,i,Pz,⟨0,0,0,0,0,0,[]⟩⟩
theorem WT {n:Int}{R:Rp}(h:R.ok)(hn:R.n=n):OkW n R.lead.2:=.of h.me hn (fun y hy=>Fa qbu hy) (LM h)
theorem QT {n:Int}{R:Rp}(h:R.ok)(hn:R.n=n)(s:ByteArray):OkW n (R.ax s).2.1:=.of h.me hn (fun y hy=>Fa (WS s) hy) (Df h s)
theorem WU {n:Int}{R:Rp}(h:R.ok)(hs:Sorted R.A.L)(hn:R.n=n)(x:az):OkW n (R.take x).2:=.of h.me hn (fun y hy=>Fa (qbw x) hy) (DK h hs x)
theorem Zn {n:Int}{R:Rp}(h:R.ok)(hn:R.n=n)(i:Int):OkW n (R.ask i):=.of h.me hn (fun y hy=>Fa (qce i) hy) (Nq R i)
section
variable (c:Ctx) (hc:jm c) (hN:qV c) {H:aa} {K:Value→aa→Prop} {w:Nat→Nat} {t:Nat} {S:Tp} {n:Int}
include hc in
theorem sK {g:FuncId}{i:Int}(h:xP w H t g S)(hK:K (.bool (S.at i).isSome) H):c.C (c.F DV) [.pointer (some ⟨t,0,none⟩),.int .i64 i] H K:=by
 refine c.enter hc.GL rfl ?_
 obtain⟨l,y,z,a,m,g⟩:=h.len
 unfold Tp.at at hK
 by_cases h1:0≤i
 ·rw[if_pos h1]at hK
  by_cases h2:i<(S.R.length:Int)
  ·rw[List.getElem?_eq_getElem (by omega)]at hK
   simp -implicitDefEqProofs [gN,aT,g,h1,h2]
   exact hK
  ·rw[List.getElem?_eq_none (by omega)]at hK
   simp -implicitDefEqProofs [gN,aT,g,h1,h2]
   exact hK
 ·rw[if_neg h1]at hK
  simp -implicitDefEqProofs [gN,aT,g,h1]
  exact hK
include hc hN in
theorem LV {i:Int}(h:xP w H t (c.F aD) S)(ho:S.ok n)(h0:S.at i=none→K (.bool false) H)(h1: ∀R,S.at i=some R→∀H',Tn w H t (c.F aD) (S.say i.toNat R.lead) H'→(S.say i.toNat R.lead).ok n→K (.bool true) H'):
 c.C (c.F DN) [.pointer (some ⟨t,0,none⟩),.int .i64 i] H K:=by
 refine c.enter hc.GJ rfl ?_
 simp -implicitDefEqProofs [mR]
 refine av (sK c hc h ?_)
 cases hat:S.at i with
 |none=>
  simp -implicitDefEqProofs []
  exact h0 hat
 |some R=>
  obtain⟨b1,b2,b3⟩:=Tp.kR hat
  obtain⟨lb,cap,wv,fv,p,cs,ro,e1,e2,e3,e4,e5⟩:=h.node b3
  have b4:i.toNat<S.R.length:=b2
  have b5:i<(S.R.length:Int):=by omega
  obtain⟨o1,o2,o3⟩:=ho.node _ R b3
  simp -implicitDefEqProofs [aT,e1,e2,e3,e4,b1,b4,b5]
  refine aI c.mono (WI c hN e5 o1 fun u H1 sd=> ?_)
  obtain⟨B',f,hB,hr,hm⟩:=sd
  simp -implicitDefEqProofs []
  refine aI c.mono (OM c hc h b2 ⟨lb,cap,wv,fv,cs,ro,e1,e2,e3⟩ ho.way (LM o1).1 f hB hr (hm.weak fun b hb=>hb) fun H2 tn=> ?_)
  simp -implicitDefEqProofs []
  exact h1 R hat H2 tn (ho.say b3 o1.lead (WT o1 o2))
end
end
section
def Tp.drop (S:Tp)(a:Nat):Tp:=⟨S.R,S.way.eraseIdx a⟩
theorem Tp.ok.drop {n:Int}{S:Tp}(h:S.ok n)(a:Nat):(S.drop a).ok n:=
 ⟨h.q,h.len,h.node,by show(S.way.eraseIdx a).length≤1024;have:=h.way;rw[List.length_eraseIdx];split <;> omega,fun x hx=>h.note x (List.mem_of_mem_eraseIdx hx)⟩
theorem QU {α:Type}{l:List α}{i:Nat}{x:α}(h:l[i]? =some x):l.set i x=l:=by
 obtain⟨h1,rfl⟩:=List.getElem?_eq_some_iff.1 h
 exact List.set_getElem_self h1
section
variable (c:Ctx) (hc:jm c) (hN:qV c) {H:aa} {K:Value→aa→Prop} {w:Nat→Nat} {t:Nat} {S:Tp} {n:Int}
include hc hN in
theorem zS {i:Int}{s:ByteArray}(h:xP w H t (c.F aD) S)(ho:S.ok n)(h0:S.at i=none→K (.int .i64 1) H)
 (h1: ∀R,S.at i=some R→(R.ax s).2.2=0→∀H',Tn w H t (c.F aD) (S.say i.toNat ((R.ax s).1,(R.ax s).2.1)) H'→(S.say i.toNat ((R.ax s).1,(R.ax s).2.1)).ok n→K (.int .i64 0) H')
 (h2: ∀R,S.at i=some R→(R.ax s).2.2≠0→∀H',Tn w H t (c.F aD) S H'→K (.int .i64 (R.ax s).2.2) H'):
 c.C (c.F yC) [.pointer (some ⟨t,0,none⟩),.int .i64 i,.string s] H K:=by
 refine c.enter hc.Ca rfl ?_
 simp -implicitDefEqProofs [j4]
 refine av (sK c hc h ?_)
 cases hat:S.at i with
 |none=>
  simp -implicitDefEqProofs []
  exact h0 hat
 |some R=>
  obtain⟨b1,b2,b3⟩:=Tp.kR hat
  obtain⟨lb,cap,wv,fv,p,cs,ro,e1,e2,e3,e4,e5⟩:=h.node b3
  have b5:i<(S.R.length:Int):=by omega
  obtain⟨o1,o2,o3⟩:=ho.node _ R b3
  simp -implicitDefEqProofs [aT,e1,e2,e3,e4,b1,b2,b5]
  refine av (QI c hN (s:=s) e5 o1 fun u H1 f hr hm=> ?_)
  have ht:=h.lt t (by have:=h.own;omega)
  obtain⟨e,he⟩: ∃e,e=(R.ax s).2.2:=⟨_,rfl⟩
  rw[←he]
  by_cases hz:e=0
  ·subst hz
   simp -implicitDefEqProofs [aT]
   refine av (OM c hc h b2 ⟨lb,cap,wv,fv,cs,ro,e1,e2,e3⟩ ho.way (Df o1 s).1 f (fun b hb=>.inl hb) hr (hm.weak fun b hb=>⟨hb.1,hb.2,fun e=>by have:=h.lt b (by omega);omega⟩) fun H2 tn=> ?_)
   simp -implicitDefEqProofs []
   exact h1 R hat he.symm H2 tn (ho.say b3 (o1.ax s) (QT o1 o2 s))
  ·have hs:(R.ax s).1=R:=by
    have:(R.ax s).2.2≠0:=by rw[←he];exact hz
    unfold Rp.ax at this ⊢
    split
    ·rfl
    ·rename_i hh;rw[if_neg hh]at this;exact absurd rfl this
   rw[hs]at hr
   simp -implicitDefEqProofs [hz]
   rw[he]
   obtain⟨q,lv,wv2,fv2,a1,a2,a3,a4,a5,a6⟩:=h.next b2 ⟨lb,cap,wv,fv,cs,ro,e1,e2,e3⟩ f (fun b hb=>.inl hb) hr
   have tn:=a6 (fun _=>False) S.way wv2 q H1 (fun b hb=>hb.elim) (Fr.refl _ _) a1 (a2.weak fun b hb=>.inl hb) (.inl rfl)
   rw[QU b3]at tn
   exact h2 R hat (by rw[←he];exact hz) H1 tn
include hc hN in
theorem Zo {i j:Int}(h:xP w H t (c.F aD) S)(ho:S.ok n)(h0:S.at i=none∨S.at j=none→K (.bool false) H)
 (h1: ∀R Q,S.at i=some R→S.at j=some Q→∀H',Tn w H t (c.F aD) (S.say i.toNat (R,R.ask j)) H'→(S.say i.toNat (R,R.ask j)).ok n→K (.bool true) H'):
 c.C (c.F Fb) [.pointer (some ⟨t,0,none⟩),.int .i64 i,.int .i64 j] H K:=by
 refine c.enter hc.IU rfl ?_
 simp -implicitDefEqProofs [oq]
 refine av (sK c hc h ?_)
 cases hat:S.at i with
 |none=>
  simp -implicitDefEqProofs []
  exact h0 (.inl hat)
 |some R=>
  simp -implicitDefEqProofs []
  refine av (sK c hc h ?_)
  cases haj:S.at j with
  |none=>
   simp -implicitDefEqProofs []
   exact h0 (.inr haj)
  |some Q=>
   obtain⟨b1,b2,b3⟩:=Tp.kR hat
   obtain⟨lb,cap,wv,fv,p,cs,ro,e1,e2,e3,e4,e5⟩:=h.node b3
   have b5:i<(S.R.length:Int):=by omega
   obtain⟨o1,o2,o3⟩:=ho.node _ R b3
   simp -implicitDefEqProofs [aT,e1,e2,e3,e4,b1,b2,b5]
   refine aI c.mono (Zj c hN e5 fun u H1 k1 hm=> ?_)
   simp -implicitDefEqProofs []
   refine aI c.mono (OM c hc h b2 ⟨lb,cap,wv,fv,cs,ro,e1,e2,e3⟩ ho.way (Nq R j).1 (k1.fr _) (fun b hb=>.inl hb) (e5.le k1) (hm.weak fun b hb=>⟨hb.1,hb.2,fun e=>by have:=h.lt b (by omega);omega⟩) fun H2 tn=> ?_)
   simp -implicitDefEqProofs []
   exact h1 R Q hat haj H2 tn (ho.say b3 ⟨o1,rfl,rfl⟩ (Zn o1 o2 j))
include hc hN in
theorem UO {i:Int}(h:xP w H t (c.F aD) S)(ho:S.ok n)(h0:S.at i=none→K (.bool false) H)
 (h1: ∀R,S.at i=some R→∀H',Tn w H t (c.F aD) (S.say i.toNat (R.gM,[])) H'→(S.say i.toNat (R.gM,[])).ok n→K (.bool true) H'):
 c.C (c.F A8) [.pointer (some ⟨t,0,none⟩),.int .i64 i] H K:=by
 refine c.enter hc.Ff rfl ?_
 simp -implicitDefEqProofs [l6]
 refine av (sK c hc h ?_)
 cases hat:S.at i with
 |none=>
  simp -implicitDefEqProofs []
  exact h0 hat
 |some R=>
  obtain⟨b1,b2,b3⟩:=Tp.kR hat
  obtain⟨lb,cap,wv,fv,p,cs,ro,e1,e2,e3,e4,e5⟩:=h.node b3
  have b5:i<(S.R.length:Int):=by omega
  obtain⟨o1,o2,o3⟩:=ho.node _ R b3
  simp -implicitDefEqProofs [aT,e1,e2,e3,e4,b1,b2,b5]
  refine av (UI c hN e5 o1 fun H1 B' f hB hr=> ?_)
  simp -implicitDefEqProofs []
  obtain⟨q,lv,wv2,fv2,a1,a2,a3,a4,a5,a6⟩:=h.next b2 ⟨lb,cap,wv,fv,cs,ro,e1,e2,e3⟩ f hB hr
  have tn:=a6 (fun _=>False) S.way wv2 q H1 (fun b hb=>hb.elim) (Fr.refl _ _) a1 (a2.weak fun b hb=>.inl hb) (.inl rfl)
  have hs:S.say i.toNat (R.gM,[])=⟨S.R.set i.toNat R.gM,S.way⟩:=by unfold Tp.say DX;simp
  rw[←hs]at tn
  exact h1 R hat H1 tn (ho.say b3 o1.gM (by intro x hx;cases hx))
include hc hN in
theorem Kr {i:Int}(h:xP w H t (c.F aD) S)(h0:S.at i=none→K (.slice none 0 0) H)
 (h1: ∀R,S.at i=some R→∀v H',H.le H'→Grow H' H.next 1 v ((DF R.L 0).map fun x=>[.string x])→K v H'):
 c.C (c.F Fe) [.pointer (some ⟨t,0,none⟩),.int .i64 i] H K:=by
 refine c.enter hc.IV rfl ?_
 simp -implicitDefEqProofs [ow]
 refine av (sK c hc h ?_)
 cases hat:S.at i with
 |none=>
  simp -implicitDefEqProofs []
  exact h0 hat
 |some R=>
  obtain⟨b1,b2,b3⟩:=Tp.kR hat
  obtain⟨lb,cap,wv,fv,p,cs,ro,e1,e2,e3,e4,e5⟩:=h.node b3
  have b5:i<(S.R.length:Int):=by omega
  simp -implicitDefEqProofs [aT,e1,e2,e3,e4,b1,b2,b5]
  refine av (Zk c hN e5 fun v H1 k1 gr=> ?_)
  simp -implicitDefEqProofs []
  exact h1 R hat v H1 k1 gr
include hc hN in
theorem GN {i:Int}(h:xP w H t (c.F aD) S)(h0:S.at i=none→K (.bool false) H)
 (h1: ∀R,S.at i=some R→K (.bool (decide (R.P.does=2))) H):
 c.C (c.F A9) [.pointer (some ⟨t,0,none⟩),.int .i64 i] H K:=by
 refine c.enter hc.Fg rfl ?_
 simp -implicitDefEqProofs [l7]
 refine av (sK c hc h ?_)
 cases hat:S.at i with
 |none=>
  simp -implicitDefEqProofs []
  exact h0 hat
 |some R=>
  obtain⟨b1,b2,b3⟩:=Tp.kR hat
  obtain⟨lb,cap,wv,fv,p,cs,ro,e1,e2,e3,e4,e5⟩:=h.node b3
  have b5:i<(S.R.length:Int):=by omega
  simp -implicitDefEqProofs [aT,e1,e2,e3,e4,b1,b2,b5]
  refine av (UF c hN e5 ?_)
  simp -implicitDefEqProofs []
  exact h1 R hat
include hc in
theorem Iy {g:FuncId}(h:xP w H t g S)(hK:K (.int .i64 S.way.length) H):c.C (c.F yE) [.pointer (some ⟨t,0,none⟩)] H K:=by
 refine c.enter hc.Cc rfl ?_
 obtain⟨l,y,z,a,m,g⟩:=h.len
 simp -implicitDefEqProofs [kg,aT,g]
 exact hK
end
end
section
theorem Tn.le {w:Nat→Nat}{H H' Rw:aa}{t:Nat}{g:FuncId}{S':Tp}(h:Tn w H t g S' H')(k:H'.le Rw):Tn w H t g S' Rw:=by
 obtain⟨w',h1,h2,h3,h4⟩:=h
 exact⟨w',h1.jg k,h2,h3,h4.le k⟩
theorem Tn.of_le {w:Nat→Nat}{H H' Rw:aa}{t:Nat}{g:FuncId}{S':Tp}(k:H.le H')(hw: ∀b,w b≠0→b<H.next)(h:Tn w H' t g S' Rw):Tn w H t g S' Rw:=by
 obtain⟨w',h1,h2,h3,h4⟩:=h
 have:=k.next
 exact⟨w',k.lq h1,fun b hb=>(h2 b hb).imp id fun z=>by omega,h3,h4⟩
theorem Tn.same {w:Nat→Nat}{H:aa}{t:Nat}{g:FuncId}{S:Tp}(h:xP w H t g S):Tn w H t g S H:=⟨w,Fr.refl _ _,fun b hb=>.inl hb,fun _ h=>h,h⟩
theorem Tn.trans {w:Nat→Nat}{H H' Rw:aa}{t:Nat}{g:FuncId}{S' S'':Tp}(h:Tn w H t g S' H')(k: ∀w',xP w' H' t g S'→Tn w' H' t g S'' Rw):Tn w H t g S'' Rw:=by
 obtain⟨w',h1,h2,h3,h4⟩:=h
 obtain⟨w'',k1,k2,k3,k4⟩:=k w' h4
 have:=h1.next
 exact⟨w'',h1.trans k1 fun b hb=>(h2 b hb),fun b hb=>(k2 b hb).elim (h2 b) fun z=>.inr (by omega),fun b hb=>k3 b (h3 b hb),k4⟩
theorem xP.ways {w:Nat→Nat}{H:aa}{t:Nat}{g:FuncId}{S:Tp}(h:xP w H t g S)(hne:0<S.R.length):
 ∃q lv wv fv,H.get t=some (.cells [lv,wv,fv] false)∧oC q (fun b=>w b=5) H wv S.way∧q≠t∧(∀b,w b=5→b≠t∧b≠q) ∧
  ∀(QS:List az) (wv':Value) (q':Nat) (H2:aa),Fr (fun b=>b=t∨b=q) H H2→H2.get t=some (.cells [lv,wv',fv] false)→oC q' (fun b=>w b=5) H2 wv' QS→(q'=q∨H.next≤q')→Tn w H t g ⟨S.R,QS⟩ H2:=by
 obtain⟨R,hR⟩: ∃R,S.R[0]? =some R:=⟨S.R[0],List.getElem?_eq_getElem hne⟩
 obtain⟨lb,cap,wv,fv,p,cs,ro,e1,e2,e3,e4,e5⟩:=h.node hR
 obtain⟨q,lv,wv2,fv2,a1,a2,a3,a4,a5,a6⟩:=h.next hne ⟨lb,cap,wv,fv,cs,ro,e1,e2,e3⟩ (Fr.refl _ _) (fun b hb=>.inl hb) e5
 refine⟨q,lv,wv2,fv2,a1,a2,a3,a4,fun QS wv' q' H2 f g w5 hq=> ?_⟩
 have:=a6 (fun _=>False) QS wv' q' H2 (fun b hb=>hb.elim) f g (w5.weak fun b hb=>.inl hb) hq
 rwa[QU hR]at this
section
variable (c:Ctx) (hc:jm c) (hN:qV c) {H:aa} {K:Value→aa→Prop} {w:Nat→Nat} {t:Nat} {S:Tp} {n:Int}
theorem Tp.ok.pos (ho:S.ok n):0<S.R.length:=by have:=(eB ho.q).1;have:=ho.len;omega
include hc in
theorem WV {g:FuncId}{i:Int}(h:xP w H t g S)(ho:S.ok n)(h0:S.way=[]→∀H',Tn w H t g S H'→K (.bool false) H')
 (h1: ∀(a:Nat) (x:az),(a:Int)=GM i S.way.length→S.way[a]? =some x→∀H',Tn w H t g (S.drop a) H'→K (.bool true) H'):
 c.C (c.F DU) [.pointer (some ⟨t,0,none⟩),.int .i64 i] H K:=by
 refine c.enter hc.GK rfl ?_
 obtain⟨q,lv,wv,fv,a1,a2,a3,a4,a5⟩:=h.ways ho.pos
 have ht:=h.lt t (by have:=h.own;omega)
 simp -implicitDefEqProofs [mU,aT]
 refine av (WR c hc (i:=i) ht a1 a2 ho.way a3 a4 (fun hz H1 k1=> ?_) fun a x ha hx wv' u H1 f g2 w2 sw=> ?_)
 ·simp -implicitDefEqProofs []
  exact h0 hz _ ((Tn.same h).le ((k1.alloc _).set (by have:=k1.next;omega) _))
 ·simp -implicitDefEqProofs []
  have o1:cO u=true:=by obtain⟨ua,uc,hue⟩:=sw.2.len;rw[hue];rfl
  simp only[aC]
  simp -implicitDefEqProofs [o1]
  exact h1 a x ha hx _ ((a5 _ wv' q H1 f g2 w2 (.inl rfl)).le ((H1.aj _).set (Nat.le_refl _) _))
def Tp.double (S:Tp)(x:az):Tp:=⟨S.R,S.way++[x]⟩
include hc in
theorem SG {g:FuncId}{i:Int}(h:xP w H t g S)(ho:S.ok n)(h0:S.way=[]∨S.way.length=1024→K (.bool false) H)
 (h1: ∀(a:Nat) (x:az),(a:Int)=GM i S.way.length→S.way.length<1024→S.way[a]? =some x→∀H',Tn w H t g (S.double x) H'→(S.double x).ok n→K (.bool true) H'):
 c.C (c.F zQ) [.pointer (some ⟨t,0,none⟩),.int .i64 i] H K:=by
 refine c.enter hc.DW rfl ?_
 obtain⟨q,lv,wv,fv,a1,a2,a3,a4,a5⟩:=h.ways ho.pos
 have ht:=h.lt t (by have:=h.own;omega)
 obtain⟨wa,wc,Vm⟩:=a2.len
 have hwl:=ho.way
 rw[Vm]at a1
 by_cases hf:S.way.length=1024
 ·simp -implicitDefEqProofs [iK,aT,a1,hf]
  exact h0 (.inr hf)
 ·have hf': ¬ (1024:Int)≤(S.way.length:Int):=by omega
  simp -implicitDefEqProofs [iK,aT,a1,hf']
  refine av (Z9 c hc a1 hwl (fun hz=> ?_) fun hz a ha hat=> ?_)
  ·simp -implicitDefEqProofs []
   exact h0 (.inl (List.length_eq_zero_iff.1 hz))
  ·obtain⟨x,hx⟩: ∃x,S.way[a]? =some x:=⟨S.way[a],List.getElem?_eq_getElem ha⟩
   have bB:IntKind.i64.wrap ((a:Int)+1)=(a:Int)+1:=wrap64 (by omega) (by omega)
   have a2':=a2
   obtain⟨us,u1,u2,u3⟩:=a2
   have Rx:=u2.Rx (gI _ us)
   have zl:=eX u1
   rw[Vm]at Rx
   obtain⟨v',s1,s2⟩:=Rx.cut (by omega) (Nat.le_succ a) (by rw[zl];omega)
   have hu:us[a]? =some us[a]:=List.getElem?_eq_getElem (by omega)
   have hrow:(List.drop a (List.zipWith aC S.way us)).take (a+1-a)=List.zipWith aC [x] [us[a]]:=by
    rw[show a+1-a=1 by omega,List.drop_zipWith,List.take_zipWith]
    congr 1
    ·rw[←List.getElem_cons_drop (h:=ha)]
     have:=(List.getElem?_eq_some_iff.1 hx).2
     simp[this]
    ·rw[List.drop_eq_getElem_cons (by omega:a<us.length),List.take_succ_cons,List.take_zero]
   rw[hrow]at s2
   have ms:MsD (fun b=>w b=5) H v' [x]:=⟨[us[a]],rfl,s2,fun j y z hy hz=>by
    match j,hy,hz with
    |0,hy,hz=>simp at hy hz;subst hy;subst hz;exact u3 a x _ hx hu
    |j+1,hy,_=>simp at hy⟩
   have q1:(0:Int)≤(a:Int)+1:=by omega
   have q2:((a:Int)+1).toNat=a+1:=by omega
   have q3:((a:Int)+1)≤(S.way.length:Int):=by omega
   have q4:(a:Int)≤(a:Int)+1:=by omega
   have q5:a≤a+1:=by omega
   have q6:a+1≤S.way.length:=by omega
   simp -implicitDefEqProofs [a1,bB,eU,nL,q1,q2,q3,q4,q5,q6,s1]
   refine aI c.mono (WQ c hc (D2:=fun b=>w b=5) ht a1 (Vm▸a2') ms hwl (by simp) a3 a4 a4 fun wv' q' H2 f2 g2 wd hq'=> ?_)
   simp -implicitDefEqProofs []
   have hp:DX S.way [x]=S.way++[x]:=by unfold DX;rw[List.take_of_length_le (by simp;omega)]
   rw[hp]at wd
   exact h1 a x hat (by omega) hx H2 (a5 _ wv' q' H2 f2 g2 (wd.weak fun b hb=>hb.elim id id) hq')
    ⟨ho.q,ho.len,ho.node,by show(S.way++[x]).length≤1024;rw[List.length_append,List.length_singleton];omega,fun y hy=>by
      rcases List.mem_append.1 hy with hy|hy
      ·exact ho.note y hy
      ·rw[List.mem_singleton.1 hy];exact ho.note x (List.mem_of_getElem? hx)⟩
include hc hN in
theorem WW {x:az}{u:Value}{tb:Nat}(h:xP w H t (c.F aD) S)(ho:S.ok n)(hx:(0≤x.fr∧x.fr<n)∧(0≤x.to∧x.to<n)∧x.ai.length≤1024)(hu:eP (fun b=>w b=5) H 4 u (x.ai.map aG))
 (htb:H.get tb=some (.cells [.pointer (some ⟨t,0,none⟩)] false)) (hw3:w tb=3)
 (h1: ∀R,S.R[x.to.toNat]? =some R→∀H',Tn w H t (c.F aD) (S.say x.to.toNat (R.take x)) H'→(S.say x.to.toNat (R.take x)).ok n→K (.tuple #[]) H'):
 c.C (c.F aD) [.agg (aC x u).toArray,.pointer (some ⟨tb,0,none⟩)] H K:=by
 refine c.enter hc.OJ rfl ?_
 obtain⟨H0,hH0⟩: ∃X:aa,X=H.alloc (.cells [.int .i64 x.kind,.int .i64 x.fr,.int .i64 x.to,.int .i64 x.slot,.int .i64 x.ba,.int .i64 x.bn,u] false):=⟨_,rfl⟩
 have k0:H.le H0:=by rw[hH0];exact H.aj _
 have n0:H0.next=H.next+1:=by rw[hH0];rfl
 have x0:H0.get H.next=some (.cells [.int .i64 x.kind,.int .i64 x.fr,.int .i64 x.to,.int .i64 x.slot,.int .i64 x.ba,.int .i64 x.bn,u] false):=by rw[hH0,YV,if_pos rfl]
 have h':=h.le k0
 have htn:=h.lt tb (by omega)
 have t0:=(k0.get tb htn).trans htb
 obtain⟨R,hR⟩: ∃R,S.R[x.to.toNat]? =some R:=⟨S.R[x.to.toNat]'(by have:=ho.len;omega),List.getElem?_eq_getElem _⟩
 have b2:=(List.getElem?_eq_some_iff.1 hR).1
 have b2':x.to.toNat<S.R.length:=b2
 obtain⟨lb,cap,wv,fv,p,cs,ro,e1,e2,e3,e4,e5⟩:=h'.node hR
 have b1:0≤x.to:=hx.2.1.1
 have b5:x.to<(S.R.length:Int):=by have:=ho.len;omega
 obtain⟨o1,o2,o3⟩:=ho.node _ R hR
 have o1u:cO u=true:=by obtain⟨ua,uc,hue⟩:=hu.2.len;rw[hue];rfl
 simp -implicitDefEqProofs [sJ,aC,←hH0,aT,t0,x0,e1,e2,e3,e4,b1,b2,b2',b5]
 refine aI c.mono (WN c hN (x:=x) (u:=u) e5 o1 (hu.le k0) (fun b hb e=>by rw[hb]at e;omega) (by have:=hx.2.2;omega) fun u2 H1 sd=> ?_)
 obtain⟨B',f,hB,hr,hm⟩:=sd
 have t1:=(f.get tb (by omega) (by omega)).trans t0
 simp -implicitDefEqProofs [t1]
 have hms:(R.take x).2.length≤7168:=(DK o1 e5.sorted x).1
 refine aI c.mono (OM c hc h' b2 ⟨lb,cap,wv,fv,cs,ro,e1,e2,e3⟩ ho.way hms f hB hr (hm.weak fun b hb=>hb) fun H2 tn=> ?_)
 simp -implicitDefEqProofs []
 exact h1 R hR H2 (tn.of_le k0 h.lt) (ho.say hR (o1.take x) (WU o1 e5.sorted o2 x))
include hc hN in
theorem zT {i:Int}(h:xP w H t (c.F aD) S)(ho:S.ok n)(h0:S.way=[]→∀H',Tn w H t (c.F aD) S H'→K (.bool false) H')
 (h1: ∀(a:Nat) (x:az) (R:Rp),(a:Int)=GM i S.way.length→S.way[a]? =some x→S.R[x.to.toNat]? =some R→∀H',Tn w H t (c.F aD) ((S.drop a).say x.to.toNat (R.take x)) H'→((S.drop a).say x.to.toNat (R.take x)).ok n→K (.bool true) H'):
 c.C (c.F yD) [.pointer (some ⟨t,0,none⟩),.int .i64 i] H K:=by
 refine c.enter hc.Cb rfl ?_
 obtain⟨q,lv,wv,fv,a1,a2,a3,a4,a5⟩:=h.ways ho.pos
 have ht:=h.lt t (by have:=h.own;omega)
 simp -implicitDefEqProofs [j6,aT]
 refine av (WR c hc (i:=i) ht a1 a2 ho.way a3 a4 (fun hz H1 k1=> ?_) fun a x ha hx wv' u H1 f g2 w2 sw=> ?_)
 ·simp -implicitDefEqProofs []
  exact h0 hz _ ((Tn.same h).le ((k1.alloc _).set (by have:=k1.next;omega) _))
 ·simp -implicitDefEqProofs []
  have o1:cO u=true:=by obtain⟨ua,uc,hue⟩:=sw.2.len;rw[hue];rfl
  have n1:=f.next
  obtain⟨w',t1,t2,t3,t4⟩:=a5 _ wv' q H1 f g2 w2 (.inl rfl)
  obtain⟨H2,hH2⟩: ∃X:aa,X=(H1.alloc (.cells [.int .i64 0,.int .i64 0,.int .i64 0,.int .i64 0,.int .i64 0,.int .i64 0,.slice none 0 0] false)).set H1.next (.cells [.int .i64 x.kind,.int .i64 x.fr,.int .i64 x.to,.int .i64 x.slot,.int .i64 x.ba,.int .i64 x.bn,u] false):=⟨_,rfl⟩
  have k2:H1.le H2:=by rw[hH2];exact(H1.aj _).set (Nat.le_refl _) _
  have x2:H2.get H1.next=some (.cells [.int .i64 x.kind,.int .i64 x.fr,.int .i64 x.to,.int .i64 x.slot,.int .i64 x.ba,.int .i64 x.bn,u] false):=by rw[hH2,YW,if_pos rfl]
  have tn2:=t4.le k2
  have qcf:=tn2
  obtain⟨_,_,lb,tb,q9,cap,ps,wv9,r1,r2,r3,r4,r5,_⟩:=qcf
  simp only[aC]
  simp -implicitDefEqProofs [o1,←hH2,aT,r4,x2]
  refine aI c.mono (WW c hc hN (S:=S.drop a) (n:=n) (x:=x) (u:=u) tn2 (ho.drop a) (ho.note x (List.mem_of_getElem? hx)) ((sw.le k2).weak fun b hb=>t3 b hb) r5 r2 fun R hR H3 tn ok3=> ?_)
  simp -implicitDefEqProofs []
  refine h1 a x R ha hx hR H3 ?_ ok3
  obtain⟨w'',s1,s2,s3,s4⟩:=tn
  have:=k2.next
  have:=t1.next
  exact⟨w'',(t1.jg k2).trans s1 t2,fun b hb=>(s2 b hb).elim (t2 b) fun z=>.inr (by omega),fun b hb=>s3 b (t3 b hb),s4⟩
end
end
section
def Tp.new (n:Int):Tp:=⟨(List.range n.toNat).map fun(j:Nat)=>Rp.new n j,[]⟩
theorem Tp.ok.new {n:Int}(h:aO n≠0):(Tp.new n).ok n:=by
 have hq:=eB h
 refine⟨h,by unfold Tp.new;rw[List.length_map,List.length_range];omega,fun i R hi=> ?_,by simp[Tp.new],by simp[Tp.new]⟩
 unfold Tp.new at hi
 rw[List.getElem?_map]at hi
 have hl:i<n.toNat:=by
  refine Classical.byContradiction fun hh=> ?_
  rw[List.getElem?_eq_none (by simp;omega)]at hi
  cases hi
 rw[List.getElem?_range hl]at hi
 simp only[Option.map_some,Option.some.injEq]at hi
 subst hi
 exact⟨Rp.qaC h (by omega) (by omega),rfl,rfl⟩
def qcg (n:Int)(H:aa)(t tb:Nat)(i:Nat)(H':aa):Prop:=
 ∃(w:Nat→Nat) (ps:List Nat) (o:Option Nat) (lv:Value),(∀b,w b≠0→b<H'.next∧H.next≤b∧w b<6+i)∧w t=1∧w tb=3∧H.le H'∧H'.get t=some (.cells [lv,.slice none 0 0,.nilFunc] false)∧H'.get tb=some (.cells [.pointer (some ⟨t,0,none⟩)] false) ∧
  ps.length=i∧GrowAt o H' 1 lv (ps.map Dg)∧(∀b,o=some b→w b=2)∧∀(j p:Nat),ps[j]? =some p→wO (fun b=>w b=6+j) H' p (Rp.new n j)
open Classical in
noncomputable def OO (w:Nat→Nat)(i:Nat)(B:Nat→Prop)(k b:Nat):Nat:=if B b then 6+i else if b=k then 2 else if w b=2 then 0 else w b
section
variable (c:Ctx) (hc:jm c) (hN:qV c) {H:aa} {K:Value→aa→Prop}
include hc hN in
theorem OP {n:Int}(h0:aO n=0→∀H',H.le H'→K (.pointer none) H')
 (h1:aO n≠0→∀t w H',H.le H'→(∀b,w b≠0→H.next≤b)→xP w H' t (c.F aD) (Tp.new n)→K (.pointer (some ⟨t,0,none⟩)) H'):
 c.C (c.F QO) [.int .i64 n] H K:=by
 refine c.enter hc.UN rfl ?_
 simp -implicitDefEqProofs [zR]
 refine av (TK c hN (fun hbad H1 k1=> ?_) fun q1 q2 q3 p0 B0' H1 k1 bb1 i1=> ?_)
 ·have hq:aO n=0:=by
   rcases hbad with h|h|h
   ·exact h
   ·omega
   ·unfold aO;rw[if_pos (.inl (by omega))]
  simp -implicitDefEqProofs [aT]
  exact h0 hq H1 k1
 ·have hq:=eB q1
  obtain⟨N,hNn⟩: ∃N:Nat,n=N:=⟨n.toNat,by omega⟩
  obtain⟨H2,hH2⟩: ∃X:aa,X=((H1.alloc (.cells [.slice none 0 0,.slice none 0 0,.nilFunc] false)).alloc (.cells [.pointer none] false)).set (H1.next+1) (.cells [.pointer (some ⟨H1.next,0,none⟩)] false):=⟨_,rfl⟩
  have k2:H1.le H2:=by rw[hH2];exact((H1.aj _).alloc _).set (by omega) _
  have n2:H2.next=H1.next+2:=by rw[hH2];rfl
  have t2:H2.get H1.next=some (.cells [.slice none 0 0,.slice none 0 0,.nilFunc] false):=by rw[hH2,YW,if_neg (by omega),YV,YX,if_neg (by omega),YV,if_pos rfl]
  have b2:H2.get (H1.next+1)=some (.cells [.pointer (some ⟨H1.next,0,none⟩)] false):=by rw[hH2,YW,if_pos rfl]
  simp -implicitDefEqProofs [aT,←hH2]
  refine aS c.mono (fun k T H'=> ∃i:Nat,i≤N∧k=N-i∧T 0 = .int .i64 n∧T 3 = .pointer (some ⟨H1.next+1,0,none⟩)∧T 10 = .int .i64 n∧T 11 = .int .i64 i∧qcg n H1 H1.next (H1.next+1) i H') N ?_ ?_
  ·refine⟨0,by omega,rfl,?_⟩
   simp -implicitDefEqProofs []
   refine⟨fun b=>if b=H1.next then 1 else if b=H1.next+1 then 3 else 0,[],none,_,fun b hb=> ?_,if_pos rfl,by simp,k2,t2,b2,rfl,⟨rfl,rfl⟩,by simp,by simp⟩
   simp only at hb
   by_cases e1:b=H1.next
   ·simp only[e1,if_true];omega
   ·by_cases e2:b=H1.next+1
    ·simp only[e2];simp;omega
    ·simp[e1,e2]at hb
  ·rintro k T H' ⟨i,hi,rfl,t0,t3,t10,t11,w,ps,o,lv,w1,w2,w3,w4,w5,w6,w7,w8,w9,w10⟩
   by_cases hil:i<N
   ·have qB:(i:Int)<n:=by omega
    have wi:IntKind.i64.wrap ((i:Int)+1)=(i:Int)+1:=wrap64 (by omega) (by omega)
    simp -implicitDefEqProofs [t0,t3,t10,t11,qB,aT,w5,w6]
    refine aI c.mono (TK c hN (fun hbad=> ?_) fun _ _ _ p B1' H3 k3 bb3 i3=> ?_)
    ·exfalso
     rcases hbad with h|h|h
     ·exact q1 h
     ·omega
     ·omega
    ·have t3':=(k3.get H1.next (w1 _ (by omega)).1).trans w5
     have b3':=(k3.get (H1.next+1) (w1 _ (by omega)).1).trans w6
     have nn3:=k3.next
     obtain⟨H4,qN⟩: ∃X:aa,X=H3.alloc (.cells [.pointer (some ⟨p,0,none⟩)] false):=⟨_,rfl⟩
     have k4:H3.le H4:=by rw[qN];exact H3.aj _
     have n4:H4.next=H3.next+1:=by rw[qN];rfl
     have x4:H4.get H3.next=some (.cells [.pointer (some ⟨p,0,none⟩)] false):=by rw[qN,YV,if_pos rfl]
     have fB:aZ H4 1 1 (.slice (some ⟨H3.next,0,none⟩) 1 1)=some [.pointer (some ⟨p,0,none⟩)]:=by simp[aZ,aa.aP,x4]
     have g4:GrowAt o H4 1 lv (ps.map Dg):=w8.fr ((k3.trans k4).fr fun _=>False) fun _ _ h=>h
     obtain⟨lv',H5,o',p1,p2,p3,p4⟩:=g4.append (bytes:=8) (new:=[Dg p]) (by omega) (by omega) (by rw[List.length_map,List.length_singleton];omega) (by rw[List.length_map,List.length_singleton];omega) (by simp[Dg]) rfl
     simp only[List.length_singleton,List.flatten_singleton,Dg]at p1
     have n5:=p3.next
     have wt:=(w1 H1.next (by omega)).1
     have wb:=(w1 (H1.next+1) (by omega)).1
     have ot: ¬ o=some H1.next:=fun e=>by have:=w9 _ e;omega
     have ob: ¬ o=some (H1.next+1):=fun e=>by have:=w9 _ e;omega
     have g5:=(p3.get H1.next (by omega) ot).trans ((k4.get H1.next (by omega)).trans t3')
     have b5:=(p3.get (H1.next+1) (by omega) ob).trans ((k4.get (H1.next+1) (by omega)).trans b3')
     rcases p4 with⟨_,p4⟩|⟨k,p4,p5,_⟩
     ·cases p4
     ·subst p4
      obtain⟨xa,xc,hxe⟩:=(p2.grow (N:=0) fun _ _=>Nat.zero_le _).len
      have o2:cO lv'=true:=by rw[hxe];rfl
      have c2v:lv'.cells = #[lv']:=by rw[hxe];rfl
      simp -implicitDefEqProofs [t0,t3,t10,t11,t3',b3',aT,bG,←qN,fB,p1,b5,g5,o2,c2v,wi]
      have hBt: ∀b,b<H'.next→¬ B1' b:=fun b hb hh=>by have:=bb3 b hh;omega
      have hn1:=w4.next
      have fS:Fr (fun b=>b=H1.next) H5 (H5.set H1.next (.cells [lv',.slice none 0 0,.nilFunc] false)):=(Fr.refl (fun b=>b=H1.next) H5).set (.inl rfl) _
      have hk5:=p2.1
      have eqi: ∀b,OO w i B1' k b=6+i↔B1' b:=fun b=>by
       unfold OO
       constructor
       ·intro hh
        split at hh
        ·assumption
        split at hh
        ·omega
        split at hh
        ·omega
        ·have:=(w1 b (by omega)).2.2;omega
       ·intro hh;rw[if_pos hh]
      have eqj: ∀j b,j<i→(OO w i B1' k b=6+j↔w b=6+j):=fun j b hj=>by
       unfold OO
       constructor
       ·intro hh
        split at hh
        ·omega
        split at hh
        ·omega
        split at hh
        ·omega
        ·exact hh
       ·intro hh
        have:=(w1 b (by omega)).1
        rw[if_neg (hBt b this),if_neg (by omega),if_neg (by omega)]
        exact hh
      refine⟨N-(i+1),by omega,i+1,by omega,rfl,rfl,OO w i B1' k,ps++[p],some k,lv',fun b hb=> ?_,?_,?_,⟨by simp only[YY];omega,fun b hb=> ?_⟩,by rw[YW,if_pos rfl],by rw[YW,if_neg (by omega)];exact b5,by rw[List.length_append,w7,List.length_singleton],?_,fun b hb=> ?_,fun j x hj=> ?_⟩
      ·unfold OO at hb ⊢
       by_cases c1:B1' b
       ·rw[if_pos c1];have:=i3.lt b c1;have:=bb3 b c1;simp only[YY];omega
       ·rw[if_neg c1]at hb ⊢
        by_cases c2:b=k
        ·rw[if_pos c2];simp only[YY];omega
        ·rw[if_neg c2]at hb ⊢
         by_cases c3:w b=2
         ·rw[if_pos c3]at hb;exact absurd rfl hb
         ·rw[if_neg c3]at hb ⊢;have:=w1 b hb;simp only[YY];omega
      ·unfold OO;rw[if_neg (hBt _ wt),if_neg (by omega),if_neg (by omega)];exact w2
      ·unfold OO;rw[if_neg (hBt _ wb),if_neg (by omega),if_neg (by omega)];exact w3
      ·have ho: ¬ o=some b:=fun e=>by have:=w9 b e;have:=(w1 b (by omega)).2.1;omega
       rw[YW,if_neg (by omega),p3.get b (by omega) ho,k4.get b (by omega),k3.get b (by omega),w4.get b hb]
      ·rw[List.map_append]
       exact p2.fr fS fun b hb e=>by injection hb with hb;omega
      ·injection hb with hb
       subst hb
       unfold OO
       rw[if_neg (fun hh=>by have:=i3.lt _ hh;omega),if_pos rfl]
      ·by_cases hji:j<ps.length
       ·rw[List.getElem?_append_left hji]at hj
        have r1:=((w10 j x hj).le k3).le k4
        exact((r1.fr p3 fun b hb e=>by have:=w9 b e;omega).fr fS fun b hb e=>by rw[e]at hb;omega).congr fun b=>eqj j b (by omega)
       ·rw[List.getElem?_append_right (by omega)]at hj
        have hz:j=ps.length:=by
         refine Classical.byContradiction fun hne=> ?_
         rw[List.getElem?_eq_none (by simp;omega)]at hj
         cases hj
        subst hz
        simp only[Nat.sub_self,List.getElem?_cons_zero,Option.some.injEq]at hj
        subst hj
        rw[w7]
        exact(((i3.le k4).fr p3 fun b hb e=>by have:=w9 b e;have:=(w1 b (by omega)).1;exact hBt b this hb).fr fS fun b hb e=>by rw[e]at hb;exact hBt _ wt hb).congr fun b=>eqi b
   ·have qB: ¬ (i:Int)<n:=by omega
    have hie:i=N:=by omega
    subst hie
    simp -implicitDefEqProofs [t0,t3,t10,t11,qB,aT,w5,w6]
    refine h1 q1 H1.next w _ ?_ ?_ ?_
    ·exact(k1.trans w4).set k1.next _
    ·intro b hb;have:=(w1 b hb).2.1;have:=k1.next;omega
    ·have fS:Fr (fun b=>b=H1.next) H' (H'.set H1.next (.cells [lv,.slice none 0 0,.func (.func (c.F aD)) #[] #[.pointer (some ⟨H1.next+1,0,none⟩)]] false)):=(Fr.refl (fun b=>b=H1.next) H').set (.inl rfl) _
     cases o with
     |none=>
      exfalso
      have:=congrArg List.length w8.1
      rw[List.length_map]at this
      simp only[List.length_nil]at this
      omega
     |some lb=>
      have hlb:=w9 lb rfl
      have hv:=w8.2.2.1
      rw[List.length_map,w7]at hv
      have sl:=((w8.grow (N:=0) fun _ _=>Nat.zero_le _).Lg)
      rw[hv]at sl
      have hlen:(Tp.new n).R.length=i:=by unfold Tp.new;rw[List.length_map,List.length_range];omega
      refine⟨fun b hb=>by rw[YY];exact(w1 b hb).1,w2,lb,H1.next+1,0,dY+1,ps,_,hlb,w3,.inr rfl,?_,?_,?_,?_,oC.nil _ _ _,fun j x R hx hR=> ?_⟩
      ·rw[YW,if_pos rfl,hlen,hv]
      ·rw[YW,if_neg (by omega)];exact w6
      ·rw[w7,hlen]
      ·rw[hlen];exact sl.fr fS fun e=>by have e:lb=H1.next:=e;rw[e]at hlb;omega
      ·have hj:=(List.getElem?_eq_some_iff.1 hx).1
       unfold Tp.new at hR
       rw[List.getElem?_map,List.getElem?_range (by omega)]at hR
       simp only[Option.map_some,Option.some.injEq]at hR
       subst hR
       exact(w10 j x hx).fr fS fun b hb e=>by rw[e]at hb;omega
end
end
end
abbrev Ce:Nat:=70
def jf (F:Nat→FuncId)(Ty:Nat→TypeId):aA:=⟨26,[.tmp 4],.seq (.ops [⟨some 4,.move (.const (.bool false)),none⟩]) (.seq (.seq (.ops [⟨some 6,.move (.tmp 0),none⟩,⟨some 7,.bR (.tmp 6),none⟩,⟨some 8,.move (.tmp 1),none⟩,⟨some 9,.bR (.tmp 8),none⟩,⟨some 10,.bin .neq (.tmp 7) (.tmp 9),none⟩]) (.cond (.tmp 10) (.seq (.ops [⟨some 4,.move (.const (.bool false)),none⟩]) (.ret)) (.skip))) (.seq (.seq (.ops [⟨some 5,.move (.const (.int .i64 0)),none⟩]) (.block 0 (.loop (.seq (.seq (.ops [⟨some 11,.move (.tmp 5),none⟩,⟨some 12,.move (.tmp 0),none⟩,⟨some 13,.bR (.tmp 12),none⟩,⟨some 14,.bin .lss (.tmp 11) (.tmp 13),none⟩]) (.cond (.tmp 14) (.skip) (.exit 0))) (.seq (.block 1 (.seq (.draw [(⟨some 17,.move (.tmp 0),none⟩,[]),(⟨some 18,.move (.tmp 5),none⟩,[]),(⟨some 19,.bg 1 (.tmp 17) (.tmp 18),none⟩,[]),(⟨some 20,.ah (.tmp 19),none⟩,[]),(⟨some 21,.move (.tmp 1),none⟩,[]),(⟨some 22,.move (.tmp 5),none⟩,[]),(⟨some 23,.bg 1 (.tmp 21) (.tmp 22),none⟩,[]),(⟨some 24,.ah (.tmp 23),none⟩,[]),(⟨some 25,.bin .neq (.tmp 20) (.tmp 24),none⟩,[])]) (.cond (.tmp 25) (.seq (.ops [⟨some 4,.move (.const (.bool false)),none⟩]) (.ret)) (.skip)))) (.ops [⟨some 15,.move (.tmp 5),none⟩,⟨some 16,.bin .add (.tmp 15) (.const (.int .i64 1)),none⟩,⟨some 5,.move (.tmp 16),none⟩])))))) (.seq (.ops [⟨some 4,.move (.const (.bool true)),none⟩]) (.ret))))⟩
structure Fh (c:Ctx):Prop where
 Fj:c.IP (c.F 70)=some (jf c.F c.Ty)
abbrev l9:Nat:=332
abbrev yF:Nat:=333
abbrev Fp:Nat:=334
abbrev GQ:Nat:=335
def mg (F:Nat→FuncId)(Ty:Nat→TypeId):aA:=⟨55,[.tmp 0],.seq (.ops [⟨some 0,.move (.const (.bool false)),none⟩]) (.seq (.ops [⟨some 4,.call (F 311) [.const (.int .i64 3)],none⟩,⟨some 1,.move (.tmp 4),none⟩]) (.seq (.seq (.ops [⟨some 5,.move (.tmp 1),none⟩,⟨some 6,.fC 0 false (.tmp 5),none⟩,⟨some 7,.move (.tmp 6),none⟩,⟨some 8,.call (F 311) [.const (.int .i64 0)],some (7,false)⟩,⟨some 9,.fC 0 true (.tmp 8),some (7,false)⟩,⟨some 10,.pick (.tmp 7) (.const (.bool true)) (.tmp 9),none⟩]) (.cond (.tmp 10) (.seq (.ops [⟨some 0,.move (.const (.bool false)),none⟩]) (.ret)) (.skip))) (.seq (.ops [⟨some 11,.move (.tmp 1),none⟩,⟨some 12,.call (F 313) [.tmp 11,.const (.int .i64 0)],none⟩,⟨some 2,.move (.tmp 12),none⟩]) (.seq (.ops [⟨some 13,.move (.tmp 1),none⟩,⟨some 14,.call (F 333) [.tmp 13],none⟩]) (.seq (.ops [⟨some 15,.move (.tmp 1),none⟩,⟨some 16,.call (F 314) [.tmp 15,.const (.int .i64 0),.const (.string ⟨#[118]⟩)],none⟩,⟨some 3,.move (.tmp 16),none⟩]) (.seq (.ops [⟨some 17,.move (.tmp 1),none⟩,⟨some 18,.call (F 333) [.tmp 17],none⟩]) (.seq (.ops [⟨some 19,.move (.tmp 2),none⟩,⟨some 20,.move (.tmp 19),none⟩,⟨some 21,.move (.tmp 1),some (20,true)⟩,⟨some 22,.call (F 322) [.tmp 21,.const (.int .i64 0)],some (20,true)⟩,⟨some 23,.pick (.tmp 20) (.tmp 22) (.const (.bool false)),none⟩,⟨some 24,.move (.tmp 23),none⟩,⟨some 25,.move (.tmp 3),some (24,true)⟩,⟨some 26,.bin .eql (.tmp 25) (.const (.int .i64 0)),some (24,true)⟩,⟨some 27,.pick (.tmp 24) (.tmp 26) (.const (.bool false)),none⟩,⟨some 28,.move (.tmp 27),none⟩,⟨some 29,.move (.tmp 1),some (28,true)⟩,⟨some 30,.call (F 320) [.tmp 29,.const (.int .i64 0)],some (28,true)⟩,⟨some 31,.buildSlice 1 [.string ⟨#[]⟩] [((0,1),.const (.string ⟨#[118]⟩))],some (28,true)⟩,⟨some 32,.call (F 70) [.tmp 30,.tmp 31],some (28,true)⟩,⟨some 33,.pick (.tmp 28) (.tmp 32) (.const (.bool false)),none⟩,⟨some 34,.move (.tmp 33),none⟩,⟨some 35,.move (.tmp 1),some (34,true)⟩,⟨some 36,.call (F 320) [.tmp 35,.const (.int .i64 2)],some (34,true)⟩,⟨some 37,.buildSlice 1 [.string ⟨#[]⟩] [((0,1),.const (.string ⟨#[118]⟩))],some (34,true)⟩,⟨some 38,.call (F 70) [.tmp 36,.tmp 37],some (34,true)⟩,⟨some 39,.pick (.tmp 34) (.tmp 38) (.const (.bool false)),none⟩,⟨some 40,.move (.tmp 39),none⟩,⟨some 41,.move (.tmp 1),some (40,true)⟩,⟨some 42,.call (F 313) [.tmp 41,.const (.int .i64 3)],some (40,true)⟩,⟨some 43,.un .not (.tmp 42),some (40,true)⟩,⟨some 44,.pick (.tmp 40) (.tmp 43) (.const (.bool false)),none⟩,⟨some 45,.move (.tmp 44),none⟩,⟨some 46,.move (.tmp 1),some (45,true)⟩,⟨some 47,.call (F 314) [.tmp 46,.const (.int .i64 1),.const (.string ⟨#[120]⟩)],some (45,true)⟩,⟨some 48,.bin .eql (.tmp 47) (.const (.int .i64 16)),some (45,true)⟩,⟨some 49,.pick (.tmp 45) (.tmp 48) (.const (.bool false)),none⟩,⟨some 50,.move (.tmp 49),none⟩,⟨some 51,.move (.tmp 1),some (50,true)⟩,⟨some 52,.call (F 316) [.tmp 51,.const (.int .i64 0)],some (50,true)⟩,⟨some 53,.un .not (.tmp 52),some (50,true)⟩,⟨some 54,.pick (.tmp 50) (.tmp 53) (.const (.bool false)),none⟩,⟨some 0,.move (.tmp 54),none⟩]) (.ret))))))))⟩
def ko (F:Nat→FuncId)(Ty:Nat→TypeId):aA:=⟨14,[],.seq (.ops [⟨some 2,.move (.const (.int .i64 0)),none⟩]) (.block 0 (.loop (.seq (.seq (.ops [⟨some 3,.move (.tmp 2),none⟩,⟨some 4,.bin .lss (.tmp 3) (.const (.int .i64 300)),none⟩,⟨some 5,.move (.tmp 4),none⟩,⟨some 6,.move (.tmp 0),some (5,true)⟩,⟨some 7,.call (F 321) [.tmp 6],some (5,true)⟩,⟨some 8,.bin .gtr (.tmp 7) (.const (.int .i64 0)),some (5,true)⟩,⟨some 9,.pick (.tmp 5) (.tmp 8) (.const (.bool false)),none⟩]) (.cond (.tmp 9) (.skip) (.exit 0))) (.seq (.block 1 (.ops [⟨some 12,.move (.tmp 0),none⟩,⟨some 13,.call (F 316) [.tmp 12,.const (.int .i64 0)],none⟩])) (.ops [⟨some 10,.move (.tmp 2),none⟩,⟨some 11,.bin .add (.tmp 10) (.const (.int .i64 1)),none⟩,⟨some 2,.move (.tmp 11),none⟩])))))⟩
def kS (F:Nat→FuncId)(Ty:Nat→TypeId):aA:=⟨20,[.tmp 2],.seq (.ops [⟨some 2,.move (.const (.bool false)),none⟩]) (.seq (.seq (.ops [⟨some 4,.move (.tmp 0),none⟩,⟨some 5,.bR (.tmp 4),none⟩,⟨some 6,.bin .gtr (.tmp 5) (.const (.int .i64 200)),none⟩]) (.cond (.tmp 6) (.seq (.ops [⟨some 2,.move (.const (.bool false)),none⟩]) (.ret)) (.skip))) (.seq (.seq (.ops [⟨some 3,.move (.const (.int .i64 0)),none⟩]) (.block 0 (.loop (.seq (.seq (.ops [⟨some 7,.move (.tmp 3),none⟩,⟨some 8,.move (.tmp 0),none⟩,⟨some 9,.bR (.tmp 8),none⟩,⟨some 10,.bin .lss (.tmp 7) (.tmp 9),none⟩]) (.cond (.tmp 10) (.skip) (.exit 0))) (.seq (.block 1 (.seq (.ops [⟨some 13,.move (.tmp 0),none⟩,⟨some 14,.move (.tmp 3),none⟩,⟨some 15,.bg 4 (.tmp 13) (.tmp 14),none⟩,⟨some 16,.fieldAddr 3 (.tmp 15),none⟩,⟨some 17,.ah (.tmp 16),none⟩,⟨some 18,.pI (.tmp 17),none⟩,⟨some 19,.bin .gtr (.tmp 18) (.const (.int .i64 100)),none⟩]) (.cond (.tmp 19) (.seq (.ops [⟨some 2,.move (.const (.bool false)),none⟩]) (.ret)) (.skip)))) (.ops [⟨some 11,.move (.tmp 3),none⟩,⟨some 12,.bin .add (.tmp 11) (.const (.int .i64 1)),none⟩,⟨some 3,.move (.tmp 12),none⟩])))))) (.seq (.ops [⟨some 2,.move (.const (.bool true)),none⟩]) (.ret))))⟩
def dh (F:Nat→FuncId)(Ty:Nat→TypeId):aA:=⟨54,[.tmp 4],.seq (.ops [⟨some 3,.box (.tmp 1),none⟩,⟨some 4,.move (.const (.bool false)),none⟩]) (.seq (.seq (.ops [⟨some 5,.fieldAddr 0 (.tmp 3),none⟩,⟨some 6,.ah (.tmp 5),none⟩]) (.block 0 (.seq (.ops [⟨some 8,.bin .eql (.tmp 6) (.const (.int .i64 0)),none⟩,⟨some 7,.move (.tmp 8),none⟩]) (.cond (.tmp 7) (.seq (.ops [⟨some 9,.move (.tmp 0),none⟩,⟨some 10,.fieldAddr 1 (.tmp 3),none⟩,⟨some 11,.ah (.tmp 10),none⟩,⟨some 12,.call (F 316) [.tmp 9,.tmp 11],none⟩,⟨some 4,.move (.tmp 12),none⟩]) (.ret)) (.seq (.ops [⟨some 14,.bin .eql (.tmp 6) (.const (.int .i64 1)),none⟩,⟨some 13,.move (.tmp 14),none⟩]) (.cond (.tmp 13) (.seq (.ops [⟨some 15,.move (.tmp 0),none⟩,⟨some 16,.fieldAddr 1 (.tmp 3),none⟩,⟨some 17,.ah (.tmp 16),none⟩,⟨some 18,.call (F 317) [.tmp 15,.tmp 17],none⟩,⟨some 4,.move (.tmp 18),none⟩]) (.ret)) (.seq (.ops [⟨some 20,.bin .eql (.tmp 6) (.const (.int .i64 2)),none⟩,⟨some 19,.move (.tmp 20),none⟩]) (.cond (.tmp 19) (.seq (.ops [⟨some 21,.move (.tmp 0),none⟩,⟨some 22,.fieldAddr 1 (.tmp 3),none⟩,⟨some 23,.ah (.tmp 22),none⟩,⟨some 24,.call (F 318) [.tmp 21,.tmp 23],none⟩,⟨some 4,.move (.tmp 24),none⟩]) (.ret)) (.seq (.ops [⟨some 26,.bin .eql (.tmp 6) (.const (.int .i64 3)),none⟩,⟨some 25,.move (.tmp 26),none⟩]) (.cond (.tmp 25) (.seq (.ops [⟨some 27,.move (.tmp 0),none⟩,⟨some 28,.fieldAddr 1 (.tmp 3),none⟩,⟨some 29,.ah (.tmp 28),none⟩,⟨some 30,.call (F 313) [.tmp 27,.tmp 29],none⟩,⟨some 4,.move (.tmp 30),none⟩]) (.ret)) (.seq (.ops [⟨some 32,.bin .eql (.tmp 6) (.const (.int .i64 4)),none⟩,⟨some 31,.move (.tmp 32),none⟩]) (.cond (.tmp 31) (.seq (.ops [⟨some 33,.move (.tmp 0),none⟩,⟨some 34,.fieldAddr 1 (.tmp 3),none⟩,⟨some 35,.ah (.tmp 34),none⟩,⟨some 36,.fieldAddr 3 (.tmp 3),none⟩,⟨some 37,.ah (.tmp 36),none⟩,⟨some 38,.call (F 314) [.tmp 33,.tmp 35,.tmp 37],none⟩,⟨some 39,.bin .eql (.tmp 38) (.const (.int .i64 0)),none⟩,⟨some 4,.move (.tmp 39),none⟩]) (.ret)) (.seq (.ops [⟨some 41,.bin .eql (.tmp 6) (.const (.int .i64 5)),none⟩,⟨some 40,.move (.tmp 41),none⟩]) (.cond (.tmp 40) (.seq (.ops [⟨some 42,.move (.tmp 0),none⟩,⟨some 43,.fieldAddr 1 (.tmp 3),none⟩,⟨some 44,.ah (.tmp 43),none⟩,⟨some 45,.fieldAddr 2 (.tmp 3),none⟩,⟨some 46,.ah (.tmp 45),none⟩,⟨some 47,.call (F 315) [.tmp 42,.tmp 44,.tmp 46],none⟩,⟨some 4,.move (.tmp 47),none⟩]) (.ret)) (.seq (.ops [⟨some 49,.bin .eql (.tmp 6) (.const (.int .i64 6)),none⟩,⟨some 48,.move (.tmp 49),none⟩]) (.cond (.tmp 48) (.seq (.ops [⟨some 50,.move (.tmp 0),none⟩,⟨some 51,.fieldAddr 1 (.tmp 3),none⟩,⟨some 52,.ah (.tmp 51),none⟩,⟨some 53,.call (F 319) [.tmp 50,.tmp 52],none⟩,⟨some 4,.move (.tmp 53),none⟩]) (.ret)) (.skip))))))))))))))))) (.seq (.ops [⟨some 4,.move (.const (.bool false)),none⟩]) (.ret)))⟩
structure vU (c:Ctx):Prop where
 Fq:c.IP (c.F 332)=some (mg c.F c.Ty)
 Cf:c.IP (c.F 333)=some (ko c.F c.Ty)
 IW:c.IP (c.F 334)=some (kS c.F c.Ty)
 LW:c.IP (c.F 335)=some (dh c.F c.Ty)
section
attribute [local simp] J0 J1 J2 J3 J4 J5 J6 J7 J8 J9 Ja Jb Jc Jd Je Jf Jg Jh Ji Jj Jk Jl Jm Jn Jo Jp Jq Jr Js Jt Ju Jv Jw Jx Jy Jz JA JB JC JD JE JF JG JH JI JJ JK JL JM JN JO JP JQ JR JS aQ bZ.kind JT JU JV JW JX JY JZ Y0 Y1 Y2 Y3 Y4 Y5 Y6 Y7 Y8 Y9 Ya Yb Yc Yd Ye Yf Yg Yh Yi Yj Yk Yl Ym Yn Yo Yp Yq jq Yr Ys Yt Yu Yv Yw Yx Yy dZ bA bE Yz YA YB YC YD YE eO YF YG YH YI YJ YK YL YM YN YO YP YQ YR YS YT YU nP bK jR nG bu putAt aa.ah aa.aP aa.aK YV YW YX YY YZ B0 B1 B2 B3 B4 B5 B6 B7 B8 B9 Ba Bb Bc Bd Be Bf Bg Bh Bi Bj Bk Bl Bm Bn Bo Bp
section
def Tp.GR (S:Tp)(a:Nat):Tp:=match S.way[a]? with
 |none=>S
 |some x=>match S.R[x.to.toNat]? with
  |none=>S
  |some R=>(S.drop a).say x.to.toNat (R.take x)
theorem Tp.Nr {S:Tp}{a:Nat}{x:az}{R:Rp}(hx:S.way[a]? =some x)(hR:S.R[x.to.toNat]? =some R):S.GR a=(S.drop a).say x.to.toNat (R.take x):=by
 unfold Tp.GR;rw[hx];simp only[hR]
def OQ:Nat→Tp→Tp
 |0,S=>S
 |f+1,S=>match S.way with
  |[]=>S
  |_=>OQ f (S.GR 0)
theorem Tn.step {w w':Nat→Nat}{H H' Rw:aa}{t:Nat}{g:FuncId}{S'':Tp}(p1:Fr (fun b=>w b≠0) H H')(p2: ∀b,w' b≠0→w b≠0∨H.next≤b)(p3: ∀b,w b=5→w' b=5)(h:Tn w' H' t g S'' Rw):Tn w H t g S'' Rw:=by
 obtain⟨w'',k1,k2,k3,k4⟩:=h
 have:=p1.next
 exact⟨w'',p1.trans k1 fun b hb=>(p2 b hb),fun b hb=>(k2 b hb).elim (p2 b) fun z=>.inr (by omega),fun b hb=>k3 b (p3 b hb),k4⟩
theorem WX {n:Nat}(h:n≠0):GM 0 n=0:=by
 unfold GM
 rw[Int.zero_tmod,Int.zero_add,Int.tmod_self]
section
variable (c:Ctx) (hc:jm c) (hN:qV c) (hL:vU c) {H:aa} {K:Value→aa→Prop} {w:Nat→Nat} {t:Nat} {S:Tp} {n:Int}
include hc hN hL in
theorem LX (h:xP w H t (c.F aD) S)(ho:S.ok n)(hK: ∀H',Tn w H t (c.F aD) (OQ 300 S) H'→(OQ 300 S).ok n→K (.tuple #[]) H'):
 c.C (c.F yF) [.pointer (some ⟨t,0,none⟩)] H K:=by
 refine c.enter hL.Cf rfl ?_
 obtain⟨G,hG⟩: ∃G,G=OQ 300 S:=⟨_,rfl⟩
 rw[←hG]at hK
 simp -implicitDefEqProofs [ko]
 refine aS c.mono (fun k T H'=> ∃(i:Nat) (S':Tp),i≤300∧k=300-i∧T 0 = .pointer (some ⟨t,0,none⟩)∧T 2 = .int .i64 i∧Tn w H t (c.F aD) S' H'∧S'.ok n∧OQ (300-i) S'=G) 300 ?_ ?_
 ·refine⟨0,S,by omega,rfl,?_⟩
  simp -implicitDefEqProofs []
  exact⟨Tn.same h,ho,hG.symm⟩
 ·rintro k T H' ⟨i,S',hi,rfl,t0,t2,tn,ho',hG'⟩
  by_cases h3:i<300
  ·have h3':(i:Int)<300:=by omega
   have wi:IntKind.i64.wrap ((i:Int)+1)=(i:Int)+1:=wrap64 (by omega) (by omega)
   obtain⟨w',p1,p2,p3,p4⟩:=tn
   simp -implicitDefEqProofs [t0,t2,h3,h3']
   refine av (Iy c hc p4 ?_)
   by_cases hw:S'.way.length=0
   ·have hw0:=List.length_eq_zero_iff.1 hw
    have hGS:S'=G:=by
     rw[←hG',show 300-i=(300-(i+1))+1 by omega]
     simp only[OQ,hw0]
    simp -implicitDefEqProofs [t0,t2,h3,h3',hw]
    rw[←hGS]at hK
    exact hK H' ⟨w',p1,p2,p3,p4⟩ ho'
   ·have hw':(0:Int)<(S'.way.length:Int):=by omega
    have hwp:0<S'.way.length:=by omega
    simp -implicitDefEqProofs [t0,t2,h3,h3',hw,hw',hwp]
    refine av (zT c hc hN (i:=0) p4 ho' (fun hz=>absurd (by rw[hz];rfl) hw) fun a x R ha hx hR H2 tn2 ok2=> ?_)
    rw[WX hw]at ha
    have ha0:a=0:=by omega
    subst ha0
    rw[←Tp.Nr hx hR]at tn2 ok2
    simp -implicitDefEqProofs [t0,t2,h3,h3',wi]
    refine⟨300-(i+1),by omega,i+1,by omega,rfl,rfl,S'.GR 0,Tn.step p1 p2 p3 tn2,ok2,?_⟩
    ·rw[←hG',show 300-i=(300-(i+1))+1 by omega]
     simp only[OQ]
     split
     ·rename_i hz;exact absurd (by rw[hz];rfl) hw
     ·rfl
  ·have h3': ¬ (i:Int)<300:=by omega
   have hie:i=300:=by omega
   subst hie
   have hGS:S'=G:=hG'
   simp -implicitDefEqProofs [t0,t2,h3,h3']
   rw[←hGS]at hK
   exact hK H' tn ho'
end
end
section
def Ns (x:ByteArray):List Value:=[.string x]
section
variable (c:Ctx) (hR:Fh c) {H:aa} {K:Value→aa→Prop}
include hR
theorem qi {l m:List ByteArray}{u v:Value}(hu:qJ H 1 u (l.map Ns))(hv:qJ H 1 v (m.map Ns))(hl:l.length≤1000000000)(hK:K (.bool (decide (l=m))) H):c.C (c.F Ce) [u,v] H K:=by
 refine c.enter hR.Fj rfl ?_
 have hu':=hu
 have hv':=hv
 obtain⟨a,cap,rfl,_⟩:=hu
 obtain⟨a2,cap2,rfl,_⟩:=hv
 simp only[List.length_map]at hu' hv' ⊢
 by_cases hlen:l.length=m.length
 ·simp -implicitDefEqProofs [jf,hlen]
  refine aS c.mono (fun k T H'=> ∃i:Nat,i≤l.length∧k=l.length-i∧T 0 = .slice a m.length cap∧T 1 = .slice a2 m.length cap2∧T 5 = .int .i64 i∧H'=H∧l.take i=m.take i) l.length ?_ ?_
  ·exact⟨0,by omega,rfl,by simp -implicitDefEqProofs [],by simp -implicitDefEqProofs [],by simp -implicitDefEqProofs [],rfl,rfl⟩
  ·rintro k T H' ⟨i,hi,rfl,t0,t1,t5,rfl,heq⟩
   by_cases hil:i<l.length
   ·have him:i<m.length:=by omega
    obtain⟨b,o,cp,cs,ro,e1,hb,hget,hat⟩:=hu'.at1 (i:=i) (x:=.string l[i]) (by simp[hil,Ns])
    obtain⟨b2,o2,cp2,cs2,ro2,e2,hb2,Nt,SH⟩:=hv'.at1 (i:=i) (x:=.string m[i]) (by simp[him,Ns])
    simp only[Value.slice.injEq]at e1 e2
    obtain⟨rfl,-,rfl⟩:=e1
    obtain⟨rfl,-,rfl⟩:=e2
    have hic:(i:Int)<(m.length:Int):=by omega
    have hw:IntKind.i64.wrap ((i:Int)+1)=(i:Int)+1:=wrap64 (by omega) (by omega)
    by_cases hx:l[i]=m[i]
    ·simp -implicitDefEqProofs [t0,t1,t5,hic,him,hget,Nt,hat,SH,hx,hw,str2]
     refine⟨l.length-(i+1),by omega,i+1,by omega,rfl,by simp,?_⟩
     rw[List.take_add_one,List.take_add_one,heq,List.getElem?_eq_getElem hil,List.getElem?_eq_getElem him,hx]
    ·have hx': ¬ l[i].data=m[i].data:=fun h=>hx (by cases h1:l[i];cases h2:m[i];rw[h1,h2]at h;simp at h;rw[h])
     simp -implicitDefEqProofs [t0,t1,t5,hic,him,hget,Nt,hat,SH,hx',hw,str2]
     have:decide (l=m)=false:=decide_eq_false (by rintro rfl;exact hx rfl)
     rw[this]at hK
     exact hK
   ·have him: ¬ i<m.length:=by omega
    have hic: ¬ (i:Int)<(m.length:Int):=by omega
    simp -implicitDefEqProofs [t0,t1,t5,hic,him]
    rw[List.take_of_length_le (by omega),List.take_of_length_le (by omega)]at heq
    have:decide (l=m)=true:=decide_eq_true heq
    rw[this]at hK
    exact hK
 ·have hlen': ¬ (l.length:Int)=(m.length:Int):=by omega
  simp -implicitDefEqProofs [jf,hlen,hlen']
  have:decide (l=m)=false:=decide_eq_false (by rintro rfl;exact hlen rfl)
  rw[this]at hK
  exact hK
end
end
section
def sv:ByteArray:=⟨#[118]⟩
def sx2:ByteArray:=⟨#[120]⟩
def TN:Rp:=Rp.new 3 0
def z0:Tp:=Tp.new 3
def z1:Tp:=z0.say 0 TN.lead
def z2:Tp:=OQ 300 z1
def rq0:Rp:=(z2.R[0]?).getD TN
def z3:Tp:=z2.say 0 ((rq0.ax sv).1,(rq0.ax sv).2.1)
def z4:Tp:=OQ 300 z3
theorem qaK:z2.R.length=3:=by decide +kernel
theorem qaL:(rq0.ax sv).2.2=0:=by decide +kernel
theorem OT:z4.R.length=3:=by decide +kernel
theorem WY:((z4.R[0]?).getD TN).P.does=2:=by decide +kernel
theorem Zp:DF ((z4.R[0]?).getD TN).L 0=[sv]:=by decide +kernel
theorem Zq:DF ((z4.R[2]?).getD TN).L 0=[sv]:=by decide +kernel
theorem WZ:(((z4.R[1]?).getD TN).ax sx2).2.2=16:=by decide +kernel
theorem qaM:z4.way=[]:=by decide +kernel
theorem OU {S:Tp}{i:Nat}(h:i<S.R.length)(d:Rp):S.at i=some ((S.R[i]?).getD d):=by
 unfold Tp.at
 rw[if_pos (by omega),Int.toNat_natCast,List.getElem?_eq_getElem h]
 rfl
section
variable (c:Ctx) (hc:jm c) (hN:qV c) (hR:Fh c) (hL:vU c) {H:aa} {K:Value→aa→Prop}
include hc hN hR hL in
theorem Zr (hK: ∀H',K (.bool true) H'):c.C (c.F l9) [] H K:=by
 refine c.enter hL.Fq rfl ?_
 have q3:aO 3≠0:=by decide
 simp -implicitDefEqProofs [mg]
 refine av (OP c hc hN (fun h=>absurd h q3) fun _ t w H1 k1 w1 i1=> ?_)
 simp -implicitDefEqProofs [aT]
 refine av (OP c hc hN (fun _ H2 k2=> ?_) fun h=>absurd rfl h)
 have i2:=i1.le k2
 have ok0:(Tp.new 3).ok 3:=.new q3
 have at0:z0.at 0=some TN:=rfl
 simp -implicitDefEqProofs [aT]
 refine av (LV c hc hN (n:=3) i2 ok0 (fun h=>by have h:z0.at 0=none:=h;rw[at0]at h;cases h) fun R hat H3 tn3 ok3=> ?_)
 have hat':z0.at 0=some R:=hat
 rw[at0]at hat'
 injection hat' with hat'
 subst hat'
 obtain⟨w3,_,_,_,i3⟩:=tn3
 have i3':xP w3 H3 t (c.F aD) z1:=i3
 have qch:z1.ok 3:=ok3
 simp -implicitDefEqProofs []
 refine av (LX c hc hN hL i3' qch fun H4 tn4 ok4=> ?_)
 obtain⟨w4,_,_,_,i4⟩:=tn4
 have i4':xP w4 H4 t (c.F aD) z2:=i4
 have qci:z2.ok 3:=ok4
 have at2:z2.at 0=some rq0:=OU (i:=0) (by rw[qaK];omega) TN
 simp -implicitDefEqProofs []
 refine av (zS c hc hN (s:=sv) i4' qci (fun h=>by rw[at2]at h;cases h) (fun R hat _ H5 tn5 ok5=> ?_) fun R hat he=> ?_)
 rotate_left
 ·rw[at2]at hat
  injection hat with hat
  subst hat
  exact absurd qaL he
 rw[at2]at hat
 injection hat with hat
 subst hat
 obtain⟨w5,_,_,_,i5⟩:=tn5
 have i5':xP w5 H5 t (c.F aD) z3:=i5
 have qcj:z3.ok 3:=ok5
 simp -implicitDefEqProofs []
 refine av (LX c hc hN hL i5' qcj fun H6 tn6 ok6=> ?_)
 obtain⟨w6,_,_,_,i6⟩:=tn6
 have i6':xP w6 H6 t (c.F aD) z4:=i6
 have qaN:z4.ok 3:=ok6
 have a0:z4.at 0=some ((z4.R[0]?).getD TN):=OU (i:=0) (by rw[OT];omega) TN
 have a1:z4.at 1=some ((z4.R[1]?).getD TN):=OU (i:=1) (by rw[OT];omega) TN
 have a2:z4.at 2=some ((z4.R[2]?).getD TN):=OU (i:=2) (by rw[OT];omega) TN
 have a3:z4.at 3=none:=by
  have:=OT
  unfold Tp.at
  rw[if_pos (by omega)]
  exact List.getElem?_eq_none (by rw[this];decide)
 have one: ∀(HX:aa) (b:Nat),HX.get b=some (.cells [.string sv] false)→b<HX.next→qJ HX 1 (.slice (some ⟨b,0,none⟩) 1 1) (([sv]:List ByteArray).map Ns):=by
  intro HX b hg hb
  refine⟨_,1,rfl,fun _=>⟨b,0,_,false,rfl,hb,hg,fun j r hj=> ?_⟩⟩
  match j,hj with
  |0,hj=>simp[Ns]at hj;subst hj;exact⟨rfl,rfl,Nat.le_refl _⟩
  |j+1,hj=>simp at hj
 simp -implicitDefEqProofs []
 refine av (GN c hc hN i6' (fun h=>by rw[a0]at h;cases h) fun R hat=> ?_)
 rw[a0]at hat
 injection hat with hat
 subst hat
 rw[WY]
 simp -implicitDefEqProofs []
 refine av (Kr c hc hN i6' (fun h=>by rw[a0]at h;cases h) fun R hat v7 H7 k7 g7=> ?_)
 rw[a0]at hat
 injection hat with hat
 subst hat
 rw[Zp]at g7
 obtain⟨H8,PD⟩: ∃X:aa,X=H7.alloc (.cells [.string sv] false):=⟨_,rfl⟩
 have k8:H7.le H8:=by rw[PD];exact H7.aj _
 have b8:H8.get H7.next=some (.cells [.string sv] false):=by rw[PD,YV,if_pos rfl]
 have n8:H8.next=H7.next+1:=by rw[PD];rfl
 have qat:H7.alloc (.cells [.string ⟨#[118]⟩] false)=H8:=by rw[PD];rfl
 simp -implicitDefEqProofs [qat]
 refine av (qi c hR (l:=[sv]) (m:=[sv]) (g7.le k8).Lg (one H8 _ b8 (by omega)) (by simp) ?_)
 have i8:=(i6'.le k7).le k8
 simp -implicitDefEqProofs []
 refine av (Kr c hc hN i8 (fun h=>by rw[a2]at h;cases h) fun R hat v9 H9 k9 g9=> ?_)
 rw[a2]at hat
 injection hat with hat
 subst hat
 rw[Zq]at g9
 obtain⟨H10,Zt⟩: ∃X:aa,X=H9.alloc (.cells [.string sv] false):=⟨_,rfl⟩
 have k10:H9.le H10:=by rw[Zt];exact H9.aj _
 have b10:H10.get H9.next=some (.cells [.string sv] false):=by rw[Zt,YV,if_pos rfl]
 have n10:H10.next=H9.next+1:=by rw[Zt];rfl
 have qbx:H9.alloc (.cells [.string ⟨#[118]⟩] false)=H10:=by rw[Zt];rfl
 simp -implicitDefEqProofs [qbx]
 refine av (qi c hR (l:=[sv]) (m:=[sv]) (g9.le k10).Lg (one H10 _ b10 (by omega)) (by simp) ?_)
 have i10:=(i8.le k9).le k10
 simp -implicitDefEqProofs []
 refine av (LV c hc hN (n:=3) i10 qaN (fun _=> ?_) fun R hat=>by rw[a3]at hat;cases hat)
 simp -implicitDefEqProofs []
 refine av (zS c hc hN (s:=sx2) i10 qaN (fun h=>by rw[a1]at h;cases h) (fun R hat he=> ?_) fun R hat he H11 qck=> ?_)
 ·rw[a1]at hat
  injection hat with hat
  subst hat
  rw[WZ]at he
  cases he
 ·rw[a1]at hat
  injection hat with hat
  subst hat
  rw[WZ]
  obtain⟨w11,_,_,_,i11⟩:=qck
  simp -implicitDefEqProofs []
  refine av (zT c hc hN (i:=0) i11 qaN (fun _ H12 _=> ?_) fun a x R _ hx=>by rw[qaM]at hx;simp at hx)
  simp -implicitDefEqProofs []
  exact hK _
end
end
end
def orX (X Y:bS):bS:=fun f a H K=>X f a H K∨Y f a H K
theorem QV {X Y:bS}(h:GD X X)(k:GD Y Y):GD (orX X Y) (orX X Y):=fun f a H K K' hK hh=>hh.elim (fun x=>.inl (h f a H K K' hK x)) fun x=>.inr (k f a H K K' hK x)
theorem Zu {P:Program}{X Y:bS}(h:vE P X)(k:vE P Y):vE P (orX X Y):=fun f a H K hh=>hh.elim (fun x=>h f a H K x) fun x=>k f a H K x
theorem xQ (g:FuncId):GD (Nf g) (Nf g):=by
 rintro f a H K K' hK ⟨h0,b1,o1,n1,c1,b2,o2,n2,c2,cs1,cs2,h1,h2,h3,h4,h5,h6,h7,h8,h9⟩
 exact⟨h0,b1,o1,n1,c1,b2,o2,n2,c2,cs1,cs2,h1,h2,h3,h4,h5,h6,h7,h8,hK _ _ h9⟩
theorem QW {H:aa}{size:Nat}{s:Value}{K K':Value→aa→Prop}(hK: ∀v H',K v H'→K' v H')(h:Lf H size s K):Lf H size s K':=by
 rcases h with⟨a,b⟩|⟨b,o,len,cs,h1,h2,h3⟩
 ·exact .inl ⟨a,hK _ _ b⟩
 ·exact .inr ⟨b,o,len,cs,h1,h2,fun c vG x y z=>hK _ _ (h3 c vG x y z)⟩
theorem UQ {H:aa}{size:Nat}{s:Value}{K K':Value→aa→Prop}(hK: ∀v H',K v H'→K' v H')(h:Hide H size s K):Hide H size s K':=by
 rcases h with a|⟨b,o,len,c,cs,h1,h2,h3,h4,h5,h6⟩
 ·exact .inl (hK _ _ a)
 ·exact .inr ⟨b,o,len,c,cs,h1,h2,h3,h4,h5,hK _ _ h6⟩
theorem Iz {CC:bS}(hC:GD CC CC)(g:FuncId)(size:Nat):GD (Oh CC g size) (Oh CC g size):=by
 rintro f a H K K' hK ⟨h0,s,r,h1,h2⟩
 exact⟨h0,s,r,h1,QW (fun t H1 h=>hC _ _ _ _ _ (fun v H2 h=>UQ hK h) h) h2⟩
abbrev Fs:Nat:=14
abbrev Cg:Nat:=15
def oD (F:Nat→FuncId)(Ty:Nat→TypeId):aA:=⟨29,[.tmp 4],.seq (.ops [⟨some 2,.box (.tmp 0),none⟩,⟨some 3,.box (.tmp 1),none⟩,⟨some 4,.move (.const (.int .i64 0)),none⟩]) (.seq (.block 0 (.seq (.ops [⟨some 6,.fieldAddr 0 (.tmp 2),none⟩,⟨some 7,.ah (.tmp 6),none⟩,⟨some 8,.fieldAddr 0 (.tmp 3),none⟩,⟨some 9,.ah (.tmp 8),none⟩,⟨some 10,.bin .lss (.tmp 7) (.tmp 9),none⟩,⟨some 11,.move (.tmp 10),none⟩,⟨some 12,.fieldAddr 0 (.tmp 2),some (11,false)⟩,⟨some 13,.ah (.tmp 12),some (11,false)⟩,⟨some 14,.fieldAddr 0 (.tmp 3),some (11,false)⟩,⟨some 15,.ah (.tmp 14),some (11,false)⟩,⟨some 16,.bin .eql (.tmp 13) (.tmp 15),some (11,false)⟩,⟨some 17,.move (.tmp 16),some (11,false)⟩,⟨some 18,.fieldAddr 1 (.tmp 2),some (17,true)⟩,⟨some 19,.ah (.tmp 18),some (17,true)⟩,⟨some 20,.fieldAddr 1 (.tmp 3),some (17,true)⟩,⟨some 21,.ah (.tmp 20),some (17,true)⟩,⟨some 22,.bin .lss (.tmp 19) (.tmp 21),some (17,true)⟩,⟨some 23,.pick (.tmp 17) (.tmp 22) (.const (.bool false)),some (11,false)⟩,⟨some 24,.pick (.tmp 11) (.const (.bool true)) (.tmp 23),none⟩,⟨some 5,.move (.tmp 24),none⟩]) (.cond (.tmp 5) (.seq (.ops [⟨some 4,.move (.const (.int .i64 (-1))),none⟩]) (.ret)) (.seq (.ops [⟨some 26,.ak 2 (.tmp 2),none⟩,⟨some 27,.ak 2 (.tmp 3),none⟩,⟨some 28,.eqv false [.i .i64,.i .i64] (.tmp 26) (.tmp 27),none⟩,⟨some 25,.move (.tmp 28),none⟩]) (.cond (.tmp 25) (.seq (.ops [⟨some 4,.move (.const (.int .i64 0)),none⟩]) (.ret)) (.skip)))))) (.seq (.ops [⟨some 4,.move (.const (.int .i64 1)),none⟩]) (.ret)))⟩
def mh (F:Nat→FuncId)(Ty:Nat→TypeId):aA:=⟨21,[.tmp 2],.seq (.ops [⟨some 1,.box (.tmp 0),none⟩,⟨some 2,.move (.const (.bool false)),none⟩]) (.seq (.ops [⟨some 3,.fieldAddr 0 (.tmp 1),none⟩,⟨some 4,.ah (.tmp 3),none⟩,⟨some 5,.bin .geq (.tmp 4) (.const (.int .i64 0)),none⟩,⟨some 6,.move (.tmp 5),none⟩,⟨some 7,.fieldAddr 0 (.tmp 1),some (6,true)⟩,⟨some 8,.ah (.tmp 7),some (6,true)⟩,⟨some 9,.bin .lss (.tmp 8) (.const (.int .i64 2147483648)),some (6,true)⟩,⟨some 10,.pick (.tmp 6) (.tmp 9) (.const (.bool false)),none⟩,⟨some 11,.move (.tmp 10),none⟩,⟨some 12,.fieldAddr 1 (.tmp 1),some (11,true)⟩,⟨some 13,.ah (.tmp 12),some (11,true)⟩,⟨some 14,.bin .geq (.tmp 13) (.const (.int .i64 0)),some (11,true)⟩,⟨some 15,.pick (.tmp 11) (.tmp 14) (.const (.bool false)),none⟩,⟨some 16,.move (.tmp 15),none⟩,⟨some 17,.fieldAddr 1 (.tmp 1),some (16,true)⟩,⟨some 18,.ah (.tmp 17),some (16,true)⟩,⟨some 19,.bin .lss (.tmp 18) (.const (.int .i64 7)),some (16,true)⟩,⟨some 20,.pick (.tmp 16) (.tmp 19) (.const (.bool false)),none⟩,⟨some 2,.move (.tmp 20),none⟩]) (.ret))⟩
structure dw (c:Ctx):Prop where
 IX:c.IP (c.F 14)=some (oD c.F c.Ty)
 Fu:c.IP (c.F 15)=some (mh c.F c.Ty)
section
attribute [local simp] J0 J1 J2 J3 J4 J5 J6 J7 J8 J9 Ja Jb Jc Jd Je Jf Jg Jh Ji Jj Jk Jl Jm Jn Jo Jp Jq Jr Js Jt Ju Jv Jw Jx Jy Jz JA JB JC JD JE JF JG JH JI JJ JK JL JM JN JO JP JQ JR JS aQ bZ.kind JT JU JV JW JX JY JZ Y0 Y1 Y2 Y3 Y4 Y5 Y6 Y7 Y8 Y9 Ya Yb Yc Yd Ye Yf Yg Yh Yi Yj Yk Yl Ym Yn Yo Yp Yq jq Yr Ys Yt Yu Yv Yw Yx Yy dZ bA bE Yz YA YB YC YD YE eO YF YG YH YI YJ YK YL YM YN YO YP YQ YR YS YT YU nP bK jR nG bu putAt aa.ah aa.aP aa.aK YV YW YX YY YZ B0 B1 B2 B3 B4 B5 B6 B7 B8 B9 Ba Bb Bc Bd Be Bf Bg Bh Bi Bj Bk Bl Bm Bn Bo Bp
section
section
variable (c:Ctx) (hc:dw c) {H:aa} {K:Value→aa→Prop}
include hc
theorem vW {a n b m:Int}(hK: ∀H',H.le H'→K (.int .i64 (lX a n b m)) H'):
 c.C (c.F Fs) [vB a n,vB b m] H K:=by
 refine c.enter hc.IX rfl ?_
 have hK':=hK ((H.alloc (.cells [.int .i64 a,.int .i64 n] false)).alloc (.cells [.int .i64 b,.int .i64 m] false)) (by(repeat' first|exact aa.le_refl _|assumption|apply aa.le.alloc|(refine aa.le.set ?_ (by(try simp only[YX,YY]);omega) _)|(refine aa.le.trans ?_ (by assumption))))
 simp -implicitDefEqProofs [oD,vB]
 unfold lX Mx at hK'
 by_cases h1:a<b
 ·simp -implicitDefEqProofs [h1]
  simpa[h1]using hK'
 ·by_cases h2:a=b
  ·subst h2
   by_cases h3:n<m
   ·simp -implicitDefEqProofs [h3]
    simpa[h3]using hK'
   ·by_cases h4:n=m
    ·subst h4
     simp -implicitDefEqProofs []
     simpa using hK'
    ·have h5:m<n:=by omega
     simp -implicitDefEqProofs [h3,h4]
     simpa[h3,h5]using hK'
  ·have h6:b<a:=by omega
   simp -implicitDefEqProofs [h1,h2]
   simpa[h1,h2,h6]using hK'
theorem qC {a n:Int}(hK: ∀H',H.le H'→K (.bool (bJ a n)) H'):c.C (c.F Cg) [vB a n] H K:=by
 refine c.enter hc.Fu rfl ?_
 have hK':=hK (H.alloc (.cells [.int .i64 a,.int .i64 n] false)) (by(repeat' first|exact aa.le_refl _|assumption|apply aa.le.alloc|(refine aa.le.set ?_ (by(try simp only[YX,YY]);omega) _)|(refine aa.le.trans ?_ (by assumption))))
 simp -implicitDefEqProofs [mh,vB]
 unfold bJ at hK'
 by_cases h1:0≤a
 ·by_cases h2:a<2147483648
  ·by_cases h3:0≤n
   ·simp -implicitDefEqProofs [h1,h2,h3]
    simpa[h1,h2,h3]using hK'
   ·simp -implicitDefEqProofs [h1,h2,h3]
    simpa[h1,h2,h3]using hK'
  ·simp -implicitDefEqProofs [h1,h2]
   simpa[h1,h2]using hK'
 ·simp -implicitDefEqProofs [h1]
  simpa[h1]using hK'
end
end
end
end Go.Proofs.YtpbbjfighohokaaGreatI
