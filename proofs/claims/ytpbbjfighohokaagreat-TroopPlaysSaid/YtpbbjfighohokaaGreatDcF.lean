/- The document's nodes: promises counted, slots filled. / The document's nodes: slots filled; one who proposes, new. / The document's nodes: who learns. / The document's nodes: what is told; the log. -/
import Derived.Test.YtpbbjfighohokaaGreatDoc17
namespace Go.Proofs.YtpbbjfighohokaaGreatI
open Go
set_option linter.unusedSimpArgs false
set_option linter.unusedVariables false
section
attribute [local simp] J0 J1 J2 J3 J4 J5 J6 J7 J8 J9 Ja Jb Jc Jd Je Jf Jg Jh Ji Jj Jk Jl Jm Jn Jo Jp Jq Jr Js Jt Ju Jv Jw Jx Jy Jz JA JB JC JD JE JF JG JH JI JJ JK JL JM JN JO JP JQ JR JS aQ bZ.kind JT JU JV JW JX JY JZ Y0 Y1 Y2 Y3 Y4 Y5 Y6 Y7 Y8 Y9 Ya Yb Yc Yd Ye Yf Yg Yh Yi Yj Yk Yl Ym Yn Yo Yp Yq jq Yr Ys Yt Yu Yv Yw Yx Yy dZ bA bE Yz YA YB YC YD YE eO YF YG YH YI YJ YK YL YM YN YO YP YQ YR YS YT YU nP bK jR nG bu putAt aa.ah aa.aP aa.aK YV YW YX YY YZ B0 B1 B2 B3 B4 B5 B6 B7 B8 B9 Ba Bb Bc Bd Be Bf Bg Bh Bi Bj Bk Bl Bm Bn Bo Bp
section
def Nw (D:Nat→Prop)(H H':aa)(b:Nat):Prop:=D b∨(H.next≤b∧b<H'.next)
theorem Nw.mono {D:Nat→Prop}{H H1 H2:aa}(h:H1.next≤H2.next){b:Nat}(k:Nw D H H1 b):Nw D H H2 b:=k.imp id fun z=>⟨z.1,by omega⟩
theorem Nw.step {D:Nat→Prop}{H H1 H2:aa}(h:H.next≤H1.next)(k2:H1.next≤H2.next){b:Nat}(k:Nw (Nw D H H1) H1 H2 b):Nw D H H2 b:=by
 rcases k with k|k
 ·exact k.mono k2
 ·exact .inr ⟨by omega,k.2⟩
theorem Grow.nw {H H':aa}{D:Nat→Prop}{B size:Nat}{v:Value}{rows:List (List Value)}(h:Grow H' B size v rows)(hb:H.next≤B):eP (Nw D H H') H' size v rows:=h.QD.weak fun b hb'=>.inr ⟨by omega,hb'.2⟩
def Gr (H:aa)(B size:Nat)(v:Value)(rows:List (List Value)):Prop:=∃o,GrowAt o H size v rows∧∀b,o=some b→B≤b
theorem GrowAt.lt {o:Option Nat}{H:aa}{size:Nat}{v:Value}{rows:List (List Value)}(h:GrowAt o H size v rows): ∀b,o=some b→b<H.next:=by
 intro b e;subst e;exact h.1
theorem Gr.nil (H:aa)(B size:Nat):Gr H B size (.slice none 0 0) []:=⟨none,⟨rfl,rfl⟩,by simp⟩
theorem Gr.grow {H:aa}{B size:Nat}{v:Value}{rows:List (List Value)}(h:Gr H B size v rows):Grow H B size v rows:=by
 obtain⟨o,h,hb⟩:=h;exact h.grow hb
theorem Gr.le {H H':aa}{B size:Nat}{v:Value}{rows:List (List Value)}(h:Gr H B size v rows)(k:H.le H'):Gr H' B size v rows:=by
 obtain⟨o,h,hb⟩:=h;exact⟨o,h.fr (k.fr fun _=>False) (fun _ _=>id),hb⟩
theorem Gr.set {H:aa}{B size:Nat}{v:Value}{rows:List (List Value)}(h:Gr H B size v rows){i:Nat}(hi:i<B)(x:fK):Gr (H.set i x) B size v rows:=by
 obtain⟨o,h,hb⟩:=h
 refine⟨o,h.fr (B:=fun b=>b=i) ⟨Nat.le_refl _,fun b _ hn=>by rw[YW,if_neg hn]⟩ (fun b e hn=>by have:=hb b e;omega),hb⟩
theorem Gr.many {H H1:aa}{B size bytes:Nat}{v:Value}{rows new:List (List Value)}(h:Gr H B size v rows)(k:H.le H1)(hB:B≤H1.next)(h0:0<size)(h1:0<bytes)(hn:(rows.length+new.length)*bytes≤140737488355328)
 (hl:rows.length+new.length≤140737488355328) (hnew: ∀r ∈ new,r.length=size) (hone:new.flatten.all cO=true):
 ∃v' H',aY H1 size bytes v new.length new.flatten=some (v',H')∧Gr H' B size v' (rows++new)∧aa.keep B H1 H'∧∀b,H.next≤b→b<H1.next→H'.get b=H1.get b:=by
 obtain⟨o,h,hb⟩:=h
 have hlt:=h.lt
 obtain⟨v',H',o',e1,e2,e3,e4⟩:=(h.fr (k.fr fun _=>False) (fun _ _=>id)).append (bytes:=bytes) h0 h1 hn hl hnew hone
 refine⟨v',H',e1,⟨o',e2,fun b e=> ?_⟩,⟨e3.next,fun b hb'=>e3.get b (by omega) fun e=>by have:=hb b e;omega⟩,fun b q1 q2=>e3.get b q2 fun e=>by have:=hlt b e;omega⟩
 rcases e4 with⟨rfl,_⟩|⟨z,rfl,hz,_⟩
 ·exact hb b e
 ·simp only[Option.some.injEq]at e;omega
theorem Gr.one {H H1:aa}{B size bytes:Nat}{v:Value}{rows:List (List Value)}{r:List Value}(h:Gr H B size v rows)(k:H.le H1)(hB:B≤H1.next)(h0:0<size)(h1:0<bytes)(hn:(rows.length+1)*bytes≤140737488355328)
 (hl:rows.length+1≤140737488355328) (hr:r.length=size) (hone:r.all cO=true):
 ∃v' H',aY H1 size bytes v 1 r=some (v',H')∧Gr H' B size v' (rows++[r])∧aa.keep B H1 H'∧∀b,H.next≤b→b<H1.next→H'.get b=H1.get b:=by
 have:=h.many (new:=[r]) k hB h0 h1 hn hl (by simpa using hr) (by simpa using hone)
 simpa using this
theorem El {H H1:aa}{B:Nat}{v:Value}{out:List ay}(h:Gr H B 4 v (out.map aG))(k:H.le H1)(hB:B≤H1.next)(hl:out.length≤1000000)(x:ay):
 ∃v' H',aY (H1.alloc (.cells (aG x) false)) 4 40 v 1 (aG x)=some (v',H')∧Gr H' B 4 v' ((out++[x]).map aG)∧aa.keep B H1 H'∧∀b,H.next≤b→b<H1.next→H'.get b=H1.get b:=by
 obtain⟨v',H',e1,e2,e3,e4⟩:=h.one (bytes:=40) (r:=aG x) (k.alloc (.cells (aG x) false)) (by rw[YX];omega) (by omega) (by omega) (by rw[List.length_map];omega) (by rw[List.length_map];omega) rfl rfl
 refine⟨v',H',e1,by rw[List.map_append];exact e2,⟨by have:=e3.next;rw[YX]at this;omega,fun b hb=>by rw[e3.get b hb,YV,if_neg (by omega)]⟩,fun b q1 q2=>by rw[e4 b q1 (by rw[YX];omega),YV,if_neg (by omega)]⟩
theorem Ku: ∀(l:List ay) (P:DP),(l.foldl DP.count P).n=P.n∧(l.foldl DP.count P).me=P.me∧(l.foldl DP.count P).fr=P.fr∧(l.foldl DP.count P).ba=P.ba∧(l.foldl DP.count P).bn=P.bn∧(l.foldl DP.count P).asks=P.asks∧(l.foldl DP.count P).leads=P.leads ∧
 (l.foldl DP.count P).filled=P.filled∧(l.foldl DP.count P).who=P.who
 |[],P=>⟨rfl,rfl,rfl,rfl,rfl,rfl,rfl,rfl,rfl⟩
 |v::l,P=>by
  have:=Ku l (P.count v)
  have e:(P.count v).n=P.n∧(P.count v).me=P.me∧(P.count v).fr=P.fr∧(P.count v).ba=P.ba∧(P.count v).bn=P.bn∧(P.count v).asks=P.asks∧(P.count v).leads=P.leads∧(P.count v).filled=P.filled∧(P.count v).who=P.who:=by
   unfold DP.count;split <;> exact⟨rfl,rfl,rfl,rfl,rfl,rfl,rfl,rfl,rfl⟩
  obtain⟨a1,a2,a3,a4,a5,a6,a7,a8,a9⟩:=this
  obtain⟨b1,b2,b3,b4,b5,b6,b7,b8,b9⟩:=e
  exact⟨a1.trans b1,a2.trans b2,a3.trans b3,a4.trans b4,a5.trans b5,a6.trans b6,a7.trans b7,a8.trans b8,a9.trans b9⟩
def DP.lZ (P:DP)(i:Nat):DP:={P with who:=setW P.who i}
def DP.iI (P:DP)(x:Int):DP:={P with next:=x}
def DP.OX (P:DP):DP:={P with asks:=false,leads:=true}
section
variable {P:DP} {u:Value} {x:Int} {b:Bool} {w:Value}
theorem OY:(fJ P u)[0]? =some (.int .i64 P.n):=rfl
theorem OZ {h:0<(fJ P u).length}:(fJ P u)[0]'h = .int .i64 P.n:=rfl
theorem Ny:(fJ P u)[2]? =some (.int .i64 P.fr):=rfl
theorem Nz {h:2<(fJ P u).length}:(fJ P u)[2]'h = .int .i64 P.fr:=rfl
theorem O0:(fJ P u)[3]? =some (.int .i64 P.next):=rfl
theorem O1 {h:3<(fJ P u).length}:(fJ P u)[3]'h = .int .i64 P.next:=rfl
theorem NA:List.take 2 (List.drop 4 (fJ P u))=[.int .i64 P.ba,.int .i64 P.bn]:=rfl
theorem O3:(fJ P u)[6]? =some (.bool P.asks):=rfl
theorem O4 {h:6<(fJ P u).length}:(fJ P u)[6]'h = .bool P.asks:=rfl
theorem O5:(fJ P u)[7]? =some (.bool P.leads):=rfl
theorem O6 {h:7<(fJ P u).length}:(fJ P u)[7]'h = .bool P.leads:=rfl
theorem O7:(fJ P u)[8]? =some (.bool P.filled):=rfl
theorem O8 {h:8<(fJ P u).length}:(fJ P u)[8]'h = .bool P.filled:=rfl
theorem rC:(fJ P u)[16]? =some u:=rfl
theorem rD {h:16<(fJ P u).length}:(fJ P u)[16]'h=u:=rfl
theorem eT:(fJ P u).length=17:=rfl
theorem nN {a:Option Addr}{k cp:Nat}:(fJ P (.slice a k cp)).all cO=true:=by simp[fJ,cO]
theorem O9:List.take 3 (fJ P u)++Value.int .i64 x::List.drop 4 (fJ P u)=fJ (P.iI x) u:=rfl
theorem xS:List.take 16 (fJ P u)++w::List.drop 17 (fJ P u)=fJ P w:=rfl
theorem oV:List.take 16 (fJ P u)++[w]=fJ P w:=rfl
theorem qD:List.take 17 (fJ P u)=fJ P u:=rfl
theorem PE:List.take 6 (fJ P u)++Value.bool false::List.drop 7 (fJ P u)=fJ {P with asks:=false} u:=rfl
theorem PG:List.take 7 (fJ {P with asks:=false} u)++Value.bool true::List.drop 8 (fJ {P with asks:=false} u)=fJ P.OX u:=rfl
theorem Pb:List.take 8 (fJ P u)++Value.bool true::List.drop 9 (fJ P u)=fJ {P with filled:=true} u:=rfl
theorem dW (i:Nat)(hi:i<7):(fJ P u)[9+i]? =some (.bool (P.who i)):=by
 match i,hi with
 |0,_=>rfl
 |1,_=>rfl
 |2,_=>rfl
 |3,_=>rfl
 |4,_=>rfl
 |5,_=>rfl
 |6,_=>rfl
theorem qbz (i:Nat)(hi:i<7):List.take (9+i) (fJ P u) ++ .bool true::List.drop (9+i+1) (fJ P u)=fJ (P.lZ i) u:=by
 match i,hi with
 |0,_=>rfl
 |1,_=>rfl
 |2,_=>rfl
 |3,_=>rfl
 |4,_=>rfl
 |5,_=>rfl
 |6,_=>rfl
end
theorem Em: ∀(l:List ay) (P:DP),(l.foldl DP.count P).L.length≤P.L.length+l.length
 |[],P=>Nat.le_refl _
 |v::l,P=>by
  have:=Em l (P.count v)
  have e:(P.count v).L.length≤P.L.length+1:=by unfold DP.count;split <;> simp
  simp only[List.foldl_cons,List.length_cons]
  omega
theorem IC: ∀(l:List ay) (P:DP),0≤P.next∧P.next≤1024→0≤(l.foldl DP.count P).next∧(l.foldl DP.count P).next≤1024
 |[],P,h=>h
 |v::l,P,h=>IC l (P.count v) (by
  unfold DP.count
  split
  ·rename_i ht
   unfold DP.takes at ht
   simp only[Bool.and_eq_true,decide_eq_true_eq]at ht
   show 0≤(if v.slot+1>P.next then v.slot+1 else P.next)∧(if v.slot+1>P.next then v.slot+1 else P.next)≤1024
   split <;> omega
  ·exact h)
section
variable (c:Ctx) (mM:dw c) (hQ:bN c) (h16:dS c) (h19:dU c) {H:aa} {K:Value→aa→Prop} {D:Nat→Prop}
include mM hQ h19 in
theorem Q3 {P:DP}{u w:Value}{fr x n:Int}{l:List ay}(hu:eP D H 4 u (P.L.map aG))(hw:qJ H 4 w (l.map aG))(hn:1≤P.n∧P.n≤7)(hf0:0≤P.fr)(hl:l.length≤2000)(hL:P.L.length≤900000)(hnx:0≤P.next∧P.next≤1024)
 (hK: ∀u' H',H.le H'→eP (Nw D H H') H' 4 u' ((P.promise fr x n l).1.L.map aG)→K (.tuple #[Ev (P.promise fr x n l).1 u',.bool (P.promise fr x n l).2]) H'):
 c.C (c.F pF) [Ev P u,.int .i64 fr,vB x n,w] H K:=by
 refine c.enter h19.Ck rfl ?_
 unfold DP.promise at hK
 obtain⟨a,cp,rfl⟩: ∃a cp,u = .slice a P.L.length cp:=by obtain⟨a,cp,e⟩:=hu.2.len;rw[List.length_map]at e;exact⟨_,_,e⟩
 obtain⟨wa,wc,Vm⟩: ∃a cap,w = .slice a l.length cap:=by obtain⟨a,cap,e,_⟩:=hw;rw[List.length_map]at e;exact⟨a,cap,e⟩
 subst Vm
 obtain⟨H0,hH0⟩: ∃X:aa,X=(((H.alloc (u7 P (.slice a P.L.length cp))).alloc (.cells [.int .i64 x,.int .i64 n] false)).alloc (u7 (DP.new 0 0) (.slice none 0 0))):=⟨_,rfl⟩
 have k0:H.le H0:=by rw[hH0];exact((H.aj _).alloc _).alloc _
 have n0:H0.next=H.next+3:=by rw[hH0];rfl
 have g0:H0.get H.next=some (u7 P (.slice a P.L.length cp)):=by rw[hH0];simp only[YV,YX];repeat (first|rw[if_pos trivial]|rw[if_pos (by omega)]|rw[if_neg (by omega)])
 have g1:H0.get (H.next+1)=some (.cells [.int .i64 x,.int .i64 n] false):=by rw[hH0];simp only[YV,YX];repeat (first|rw[if_pos trivial]|rw[if_pos (by omega)]|rw[if_neg (by omega)])
 have g2:H0.get (H.next+2)=some (u7 (DP.new 0 0) (.slice none 0 0)):=by rw[hH0];simp only[YV,YX];repeat (first|rw[if_pos trivial]|rw[if_pos (by omega)]|rw[if_neg (by omega)])
 have same:=fun(hf:fr<0∨P.n≤fr∨P.asks=false∨¬ (x=P.ba∧n=P.bn)∨P.who fr.toNat=true)=>(by have:=hK (.slice a P.L.length cp) (H0.set (H.next+2) (u7 P (.slice a P.L.length cp))) (k0.set (by omega) _) (by rw[if_pos hf];exact(hu.le (k0.set (by omega) _)).weak fun b hb=>.inl hb);rw[if_pos hf]at this;exact this:K (.tuple #[Ev P (.slice a P.L.length cp),.bool false]) (H0.set (H.next+2) (u7 P (.slice a P.L.length cp))))
 have same':(fr<0∨P.n≤fr∨P.asks=false∨¬ (x=P.ba∧n=P.bn)∨P.who fr.toNat=true)→K (.tuple #[.agg (fJ P (.slice a P.L.length cp)).toArray,.bool false]) (H0.set (H.next+2) (.cells (fJ P (.slice a P.L.length cp)) false)):=same
 have fV:H0=(((H.alloc (.cells (fJ P (.slice a P.L.length cp)) false)).alloc (.cells [.int .i64 x,.int .i64 n] false)).alloc (u7 (DP.new 0 0) (.slice none 0 0))):=hH0
 have g0':H0.get H.next=some (.cells (fJ P (.slice a P.L.length cp)) false):=g0
 unfold u7 DP.new at hH0 g2
 unfold u7 at g0
 unfold u7 Ev at same
 by_cases c1:fr<0
 ·simp -implicitDefEqProofs [bD,Ev,vB,←hH0,c1,g0,g2]
  exact same (.inl c1)
 by_cases c2:P.n≤fr
 ·simp -implicitDefEqProofs [bD,Ev,vB,←hH0,c1,c2,g0,g2]
  exact same (.inr (.inl c2))
 cases c3:P.asks with
 |false=>
  rw[c3]at g0 hH0 same
  simp -implicitDefEqProofs [bD,Ev,vB,c3,←hH0,c1,c2,g0,g2]
  exact same (.inr (.inr (.inl rfl)))
 |true=>
  rw[c3]at g0 hH0 same
  by_cases c4:x=P.ba∧n=P.bn
  ·obtain⟨rfl,rfl⟩:=c4
   obtain⟨i,rfl⟩: ∃i:Nat,fr=i:=⟨fr.toNat,by omega⟩
   have XF:i<7:=by omega
   have Uu:(i:Int)<7:=by omega
   have hi0:0≤(i:Int):=by omega
   have qaR:9+i<17:=by omega
   have q1:=dW (P:=P) (u:=.slice a P.L.length cp) i XF
   by_cases h5:P.who i=true
   ·rw[h5]at q1
    have q1': ∀hh,(fJ P (.slice a P.L.length cp))[9+i]'hh = .bool true:=fun hh=>by rw[List.getElem?_eq_getElem hh]at q1;exact Option.some.inj q1
    simp -implicitDefEqProofs [bD,Ev,vB,c3,←hH0,c1,c2,g0',g1,g2,OY,OZ,Ny,Nz,O0,O1,NA,O3,O4,O5,O6,O7,O8,rC,rD,eT,nN,O9,xS,oV,qD,PE,PG,Pb,q1,q1',XF,Uu,hi0,qaR]
    exact same' (.inr (.inr (.inr (.inr (by simpa using h5)))))
   have h5f:P.who i=false:=by simpa using h5
   rw[h5f]at q1
   have q1': ∀hh,(fJ P (.slice a P.L.length cp))[9+i]'hh = .bool false:=fun hh=>by rw[List.getElem?_eq_getElem hh]at q1;exact Option.some.inj q1
   have Wn:9+i≤16:=by omega
   have tW:=qbz (P:=P) (u:=.slice a P.L.length cp) i XF
   obtain⟨PW,Qy⟩: ∃PW,PW=P.lZ i:=⟨_,rfl⟩
   rw[←Qy]at tW
   obtain⟨H1,hH1⟩: ∃X:aa,X=H0.set H.next (.cells (fJ PW (.slice a P.L.length cp)) false):=⟨_,rfl⟩
   simp -implicitDefEqProofs [bD,Ev,vB,c3,←hH0,c1,c2,g0',g1,g2,OY,OZ,Ny,Nz,O0,O1,NA,O3,O4,O5,O6,O7,O8,rC,rD,eT,nN,O9,xS,oV,qD,PE,PG,Pb,q1,q1',XF,Uu,hi0,qaR,Wn,tW,←hH1]
   have n1:H1.next=H.next+3:=by rw[hH1,YY];exact n0
   have k1:H.le H1:=by rw[hH1];exact k0.set (Nat.le_refl _) _
   have o1:H1.get H.next=some (.cells (fJ PW (.slice a P.L.length cp)) false):=by rw[hH1,YW,if_pos rfl]
   have r1:H1.get (H.next+2)=some (u7 (DP.new 0 0) (.slice none 0 0)):=by rw[hH1,YW,if_neg (by omega)];exact g2
   unfold u7 DP.new at r1
   have u1:=(hu.le k1).2
   have uf:=u1.first (by omega)
   rw[List.length_map]at uf
   obtain⟨v2,H2,ap,gr,kp,-⟩:=(Gr.nil H1 H1.next 4).many (bytes:=40) (aa.le_refl _) (Nat.le_refl _) (by omega) (by omega) (new:=P.L.map aG) (by rw[List.length_map];simp;omega) (by rw[List.length_map];simp;omega) (by simp[aG]) (EZ P.L)
   rw[List.length_map]at ap
   rw[List.nil_append]at gr
   have k12:H1.le H2:=kp.le (Nat.le_refl _)
   have n2:=k12.next
   simp -implicitDefEqProofs [bD,Ev,vB,c3,←hH0,c1,c2,g0',g1,g2,OY,OZ,Ny,Nz,O0,O1,NA,O3,O4,O5,O6,O7,O8,rC,rD,eT,nN,O9,xS,oV,qD,PE,PG,Pb,q1,q1',XF,Uu,hi0,qaR,Wn,tW,←hH1,o1,bG,uf,ap]
   refine aS c.mono (fun k T H'=> ∃j:Nat,j≤l.length∧k=l.length-j∧T 3 = .slice wa l.length wc∧T 4 = .pointer (some ⟨H.next,0,none⟩)∧T 8 = .pointer (some ⟨H.next+2,0,none⟩)∧T 11 = .int .i64 j∧H.le H' ∧
    H'.get H.next=some (.cells (fJ ((l.take j).foldl DP.count PW) (.slice a P.L.length cp)) false)∧H'.get (H.next+2)=H1.get (H.next+2)∧H1.next≤H'.next∧Gr H' H1.next 4 (T 10) (((l.take j).foldl DP.count PW).L.map aG)) l.length ?_ ?_
   ·refine⟨0,by omega,rfl,?_⟩
    simp -implicitDefEqProofs []
    exact⟨k1.trans k12,(kp.get _ (by omega)).trans o1,kp.get _ (by omega),n2,by rw[Qy];exact gr⟩
   ·rintro k T H' ⟨j,hj,rfl,t3,t4,t8,t11,kH,oH,rH,nH,XJ⟩
    have hPl:((l.take j).foldl DP.count PW).L.length≤P.L.length+j:=by
     have:=Em (l.take j) PW
     rw[List.length_take,Qy]at this
     have e:(P.lZ i).L=P.L:=rfl
     rw[e,←Qy]at this
     omega
    have hPn:=IC (l.take j) PW (by rw[Qy];exact hnx)
    obtain⟨Pj,hPj⟩: ∃Pj,Pj=(l.take j).foldl DP.count PW:=⟨_,rfl⟩
    rw[←hPj]at oH XJ hPl hPn
    by_cases hjl:j<l.length
    ·have eD:(j:Int)<(l.length:Int):=by omega
     have wj:IntKind.i64.wrap ((j:Int)+1)=(j:Int)+1:=wrap64 (by omega) (by omega)
     obtain⟨v,hv⟩: ∃v,v=l[j]:=⟨_,rfl⟩
     have hx:l[j]? =some v:=by rw[hv];exact List.getElem?_eq_getElem hjl
     obtain⟨b,o,cc,cs,ro,ea,hb,hget,hrl,hrow,hbd⟩:=(hw.le kH).at (i:=j) (r:=aG v) (by simp[hx])
     rw[List.length_map]at ea
     simp only[Value.slice.injEq]at ea
     obtain⟨rfl,-,rfl⟩:=ea
     simp only[aG]at hrow
     obtain⟨H3,hH3⟩: ∃X:aa,X=(H'.alloc (.cells [.int .i64 0,.int .i64 0,.int .i64 0,.string ⟨#[]⟩] false)).set H'.next (.cells [.int .i64 v.slot,.int .i64 v.a,.int .i64 v.n,.string v.val] false):=⟨_,rfl⟩
     have k3:H'.le H3:=by rw[hH3];exact(H'.aj _).set (Nat.le_refl _) _
     have n3:H3.next=H'.next+1:=by rw[hH3];rfl
     have b3:H3.get H'.next=some (.cells [.int .i64 v.slot,.int .i64 v.a,.int .i64 v.n,.string v.val] false):=by rw[hH3,YW,if_pos rfl]
     have o3:=(k3.get H.next (by omega)).trans oH
     have r3:=(k3.get (H.next+2) (by omega)).trans rH
     have fin: ∀(Q:aa) (P':DP) (tv:Value),P'=Pj.count v→H.le Q→Q.get (H.next+2)=H1.get (H.next+2)→H1.next≤Q.next→Gr Q H1.next 4 tv (P'.L.map aG) →
      (H.le Q∧fJ P' (.slice a P.L.length cp)=fJ ((l.take (j+1)).foldl DP.count PW) (.slice a P.L.length cp)∧Q.get (H.next+2)=H1.get (H.next+2)∧H1.next≤Q.next∧Gr Q H1.next 4 tv (((l.take (j+1)).foldl DP.count PW).L.map aG)):=by
      intro Q P' tv e q1 q3 q4 q5
      have:(l.take (j+1)).foldl DP.count PW=P':=by rw[List.take_add_one,hx,List.foldl_append,←hPj,e];rfl
      rw[this]
      exact⟨q1,rfl,q3,q4,q5⟩
     have keep:Pj.takes v=false→Pj=Pj.count v:=fun e=>by unfold DP.count;rw[e];rfl
     have hfr:Pj.fr=P.fr:=by rw[hPj,(Ku (l.take j) PW).2.2.1,Qy];rfl
     by_cases d1:Pj.fr≤v.slot
     ·by_cases d2:v.slot<1024
      ·simp -implicitDefEqProofs [t3,t4,t8,t11,hjl,eD,hget,hrow,hbd,←hH3,b3,o3,OY,OZ,Ny,Nz,O0,O1,NA,O3,O4,O5,O6,O7,O8,rC,rD,eT,nN,O9,xS,oV,qD,PE,PG,Pb,d1,d2]
       refine av (qC c mM fun H4 k4=> ?_)
       have n4:=k4.next
       have b4:=(k4.get H'.next (by omega)).trans b3
       have o4:=(k4.get H.next (by omega)).trans o3
       have r4:=(k4.get (H.next+2) (by omega)).trans r3
       have kH4:=(kH.trans k3).trans k4
       have hsz:v.val.data.toList.length=v.val.size:=rfl
       cases hv4:bJ v.a v.n with
       |false=>
        simp -implicitDefEqProofs [t3,t4,t8,t11,hjl,eD,hv4,b4,o4,OY,OZ,Ny,Nz,O0,O1,NA,O3,O4,O5,O6,O7,O8,rC,rD,eT,nN,O9,xS,oV,qD,PE,PG,Pb,d1,d2,wj,k4.get,hget]
        exact⟨l.length-(j+1),by omega,j+1,by omega,rfl,by simp,fin _ Pj _ (keep (by unfold DP.takes;rw[hv4];simp)) kH4 r4 (by omega) ((XJ.le k3).le k4)⟩
       |true=>
        by_cases d3:v.val.size≤4096
        ·have d3':(v.val.size:Int)≤4096:=by omega
         have ht:Pj.takes v=true:=by unfold DP.takes;rw[hv4,decide_eq_true d1,decide_eq_true d2,decide_eq_true d3];rfl
         have ws:IntKind.i64.wrap (v.slot+1)=v.slot+1:=wrap64 (by omega) (by omega)
         have IB:=(XJ.le k3).le k4
         obtain⟨v5,H5,e5,MC,k5,j5⟩:=El XJ (k3.trans k4) (by omega) (by omega) v
         have f5:=MJ H4 v
         simp only[aG]at f5 e5
         have n5:=k5.next
         have o5:=(k5.get H.next (by omega)).trans o4
         have b5:=(j5 H'.next (by omega) (by omega)).trans b4
         have r5:=(k5.get (H.next+2) (by omega)).trans r4
         have kH5:H.le H5:=(kH4.keep (Nat.le_refl _)).trans (k5.weak (by omega)) |>.le (Nat.le_refl _)
         have hcv:Pj.count v={Pj with L:=Pj.L++[v],next:=if v.slot+1>Pj.next then v.slot+1 else Pj.next}:=by unfold DP.count;rw[if_pos ht]
         simp -implicitDefEqProofs [t3,t4,t8,t11,hjl,eD,hv4,b4,o4,hsz,OY,OZ,Ny,Nz,O0,O1,NA,O3,O4,O5,O6,O7,O8,rC,rD,eT,nN,O9,xS,oV,qD,PE,PG,Pb,d1,d2,d3,d3',wj,f5,e5,bG,o5,b5,ws]
         have ff:=fin (H5.set H.next (.cells (fJ (Pj.iI (if Pj.next<v.slot+1 then v.slot+1 else Pj.next)) (.slice a P.L.length cp)) false)) (Pj.count v) v5 rfl (kH5.set (Nat.le_refl _) _) (by rw[YW,if_neg (by omega)];exact r5) (by rw[YY];omega) (by rw[hcv];exact MC.set (by omega) _)
         exact⟨l.length-(j+1),by omega,j+1,by omega,rfl,by simp,ff.1,Eq.trans (by rw[hcv];rfl) ff.2.1,r5,by omega,ff.2.2.2.2⟩
        ·have d3': ¬ (v.val.size:Int)≤4096:=by omega
         simp -implicitDefEqProofs [t3,t4,t8,t11,hjl,eD,hv4,b4,o4,hsz,OY,OZ,Ny,Nz,O0,O1,NA,O3,O4,O5,O6,O7,O8,rC,rD,eT,nN,O9,xS,oV,qD,PE,PG,Pb,d1,d2,d3,d3',wj]
         exact⟨l.length-(j+1),by omega,j+1,by omega,rfl,by simp,fin _ Pj _ (keep (by unfold DP.takes;rw[decide_eq_false d3];simp)) kH4 r4 (by omega) ((XJ.le k3).le k4)⟩
      ·simp -implicitDefEqProofs [t3,t4,t8,t11,hjl,eD,hget,hrow,hbd,←hH3,b3,o3,OY,OZ,Ny,Nz,O0,O1,NA,O3,O4,O5,O6,O7,O8,rC,rD,eT,nN,O9,xS,oV,qD,PE,PG,Pb,d1,d2,wj]
       exact⟨l.length-(j+1),by omega,j+1,by omega,rfl,by simp,fin _ Pj _ (keep (by unfold DP.takes;rw[decide_eq_false d2];simp)) (kH.trans k3) r3 (by omega) (XJ.le k3)⟩
     ·simp -implicitDefEqProofs [t3,t4,t8,t11,hjl,eD,hget,hrow,hbd,←hH3,b3,o3,OY,OZ,Ny,Nz,O0,O1,NA,O3,O4,O5,O6,O7,O8,rC,rD,eT,nN,O9,xS,oV,qD,PE,PG,Pb,d1,wj]
      exact⟨l.length-(j+1),by omega,j+1,by omega,rfl,by simp,fin _ Pj _ (keep (by unfold DP.takes;rw[decide_eq_false d1];simp)) (kH.trans k3) r3 (by omega) (XJ.le k3)⟩
    ·have eD: ¬ (j:Int)<(l.length:Int):=by omega
     have uA:j=l.length:=by omega
     subst uA
     rw[List.take_length]at hPj
     obtain⟨va,vc,hvv⟩:=XJ.grow.len
     rw[List.length_map]at hvv
     rw[hvv]at XJ
     obtain⟨q1,q2,q3,q4,q5,q6,q7,q8,q9⟩:=Ku l PW
     rw[←hPj]at q1 q2 q3 q4 q5 q6 q7 q8 q9
     obtain⟨H3,hH3⟩: ∃X:aa,X=H'.set H.next (.cells (fJ Pj (.slice va Pj.L.length vc)) false):=⟨_,rfl⟩
     have k3:H.le H3:=by rw[hH3];exact kH.set (Nat.le_refl _) _
     have n3:H3.next=H'.next:=by rw[hH3];rfl
     have o3:H3.get H.next=some (.cells (fJ Pj (.slice va Pj.L.length vc)) false):=by rw[hH3,YW,if_pos rfl]
     have r3:H3.get (H.next+2)=H1.get (H.next+2):=by rw[hH3,YW,if_neg (by omega)];exact rH
     rw[r1]at r3
     have IB:Gr H3 H1.next 4 (.slice va Pj.L.length vc) (Pj.L.map aG):=by rw[hH3];exact XJ.set (by omega) _
     have qaS:Pj.n=P.n:=by rw[q1,Qy];rfl
     obtain⟨N,hN⟩: ∃N:Nat,P.n=N:=⟨P.n.toNat,by omega⟩
     have hN7:N≤7:=by omega
     have hres:P.promise i P.ba P.bn l=if (pV PW.who N:Int)<aO P.n then (Pj,false)else (Pj.OX,true):=by
      have e1:({P with who:=setW P.who (i:Int).toNat}:DP)=PW:=by rw[Qy];rfl
      have e2:setW P.who (i:Int).toNat=PW.who:=by rw[Qy];rfl
      have e3:P.n.toNat=N:=by omega
      unfold DP.promise
      rw[if_neg (by simp[c1,c2,c3,h5f]),e1,e2,e3,←hPj]
      rfl
     have qbA: ∀(b:Bool) (PF:DP) (u':Value),P.promise i P.ba P.bn l=(PF,b)→PF.L=Pj.L→∀(o:fK) (Q:aa),(Q=H3∨∃o' o2,Q=(H3.set H.next o').set H.next o2)→Gr H3 H1.next 4 u' (Pj.L.map aG)→K (.tuple #[.agg (fJ PF u').toArray,.bool b]) (Q.set (H.next+2) o):=by
      intro b PF u' e eL o Q hQ' hg
      have Zw:Gr (Q.set (H.next+2) o) H1.next 4 u' (PF.L.map aG):=by
       rw[eL]
       rcases hQ' with rfl|⟨o',o2,rfl⟩
       ·exact hg.set (by omega) _
       ·exact((hg.set (by omega) _).set (by omega) _).set (by omega) _
      have hle':H.le (Q.set (H.next+2) o):=by
       rcases hQ' with rfl|⟨o',o2,rfl⟩
       ·exact k3.set (by omega) _
       ·exact((k3.set (Nat.le_refl _) _).set (Nat.le_refl _) _).set (by omega) _
      have hpe:(if (i:Int)<0∨P.n≤i∨P.asks=false∨¬ (P.ba=P.ba∧P.bn=P.bn)∨P.who (i:Int).toNat=true then (P,false)
       else if (pV (setW P.who (i:Int).toNat) P.n.toNat:Int)<aO P.n then (l.foldl DP.count {P with who:=setW P.who (i:Int).toNat},false)
       else ({(l.foldl DP.count {P with who:=setW P.who (i:Int).toNat})with asks:=false,leads:=true},true))=P.promise i P.ba P.bn l:=rfl
      rw[hpe,e]at hK
      exact hK u' _ hle' (Zw.grow.nw (by omega))
     simp -implicitDefEqProofs [t3,t4,t8,t11,hjl,eD,hvv,oH,OY,OZ,Ny,Nz,O0,O1,NA,O3,O4,O5,O6,O7,O8,rC,rD,eT,nN,O9,xS,oV,qD,PE,PG,Pb,←hH3]
     refine aS c.mono (fun k T H'=> ∃j:Nat,j≤N∧k=N-j∧T 4 = .pointer (some ⟨H.next,0,none⟩)∧T 8 = .pointer (some ⟨H.next+2,0,none⟩)∧T 14 = .int .i64 j∧T 13 = .int .i64 (pV PW.who j:Nat)∧H'=H3) N ?_ ?_
     ·refine⟨0,by omega,rfl,?_⟩
      simp -implicitDefEqProofs [t4,t8,pV]
      exact hH3.symm
     ·rintro k T2 H2' ⟨j,hj,rfl,t4,t8,t14,t13,rfl⟩
      have qb2:=Oy PW.who j
      have wj:IntKind.i64.wrap ((j:Int)+1)=(j:Int)+1:=wrap64 (by omega) (by omega)
      have wc:IntKind.i64.wrap ((pV PW.who j:Int)+1)=(pV PW.who j:Int)+1:=wrap64 (by omega) (by omega)
      by_cases RA:j<N
      ·have Hu:(j:Int)<(N:Int):=by omega
       have hj7:j<7:=by omega
       have Uv:(j:Int)<7:=by omega
       have qbB:9+j<17:=by omega
       have qbC:9+j≤16:=by omega
       have hg:=dW (P:=Pj) (u:=.slice va Pj.L.length vc) j hj7
       rw[q9]at hg
       cases hwj:PW.who j with
       |true=>
        rw[hwj]at hg
        have hg': ∀hh,(fJ Pj (.slice va Pj.L.length vc))[9+j]'hh = .bool true:=fun hh=>by rw[List.getElem?_eq_getElem hh]at hg;exact Option.some.inj hg
        simp -implicitDefEqProofs [t4,t8,t14,t13,o3,qaS,hN,RA,Hu,hj7,Uv,qbB,qbC,hg,hg',OY,OZ,Ny,Nz,O0,O1,NA,O3,O4,O5,O6,O7,O8,rC,rD,eT,nN,O9,xS,oV,qD,PE,PG,Pb,wj,wc]
        refine⟨N-(j+1),by omega,j+1,by omega,rfl,by simp,?_⟩
        simp[pV,hwj]
       |false=>
        rw[hwj]at hg
        have hg': ∀hh,(fJ Pj (.slice va Pj.L.length vc))[9+j]'hh = .bool false:=fun hh=>by rw[List.getElem?_eq_getElem hh]at hg;exact Option.some.inj hg
        simp -implicitDefEqProofs [t4,t8,t14,t13,o3,qaS,hN,RA,Hu,hj7,Uv,qbB,qbC,hg,hg',OY,OZ,Ny,Nz,O0,O1,NA,O3,O4,O5,O6,O7,O8,rC,rD,eT,nN,O9,xS,oV,qD,PE,PG,Pb,wj,wc]
        refine⟨N-(j+1),by omega,j+1,by omega,rfl,by simp,?_⟩
        simp[pV,hwj]
      ·have Hu: ¬ (j:Int)<(N:Int):=by omega
       have uA:j=N:=by omega
       subst uA
       simp -implicitDefEqProofs [t4,t8,t14,t13,o3,qaS,hN,RA,Hu,OY,OZ,Ny,Nz,O0,O1,NA,O3,O4,O5,O6,O7,O8,rC,rD,eT,nN,O9,xS,oV,qD,PE,PG,Pb]
       refine av (lM c hQ ?_)
       rw[←hN]
       by_cases hq:(pV PW.who j:Int)<aO P.n
       ·rw[if_pos hq]at hres
        simp -implicitDefEqProofs [t4,t8,t13,o3,r3,OY,OZ,Ny,Nz,O0,O1,NA,O3,O4,O5,O6,O7,O8,rC,rD,eT,nN,O9,xS,oV,qD,PE,PG,Pb,hq]
        exact qbA _ Pj _ hres rfl _ _ (.inl rfl) IB
       ·rw[if_neg hq]at hres
        simp -implicitDefEqProofs [t4,t8,t13,o3,r3,OY,OZ,Ny,Nz,O0,O1,NA,O3,O4,O5,O6,O7,O8,rC,rD,eT,nN,O9,xS,oV,qD,PE,PG,Pb,hq]
        exact qbA _ Pj.OX _ hres rfl _ _ (.inr ⟨_,_,rfl⟩) IB
  ·have c4':(!decide (x=P.ba) || !decide (n=P.bn))=true:=by
    by_cases z1:x=P.ba <;> by_cases z2:n=P.bn <;> simp_all
   simp -implicitDefEqProofs [bD,Ev,vB,c3,←hH0,c1,c2,g0,g1,g2,c4']
   exact same (.inr (.inr (.inr (.inl c4))))
end
end
section
theorem IE (L:List ay)(s:Int)(x:ay):jQ (L++[x]) s=jQ L s++(if x.slot=s then [x]else []):=by
 unfold jQ
 rw[List.filter_append]
 congr 1
 by_cases h:x.slot=s <;> simp[h]
theorem LZ (P:DP): ∀(k:Nat) (s:Int),vX P s (k+1)=vX P s k++[⟨s+k,P.ba,P.bn,(yM (jQ P.L (s+k))).val⟩]
 |0,s=>by simp[vX]
 |k+1,s=>by
  have:=LZ P k (s+1)
  rw[vX,this,vX]
  have e:s+1+(k:Int)=s+((k+1:Nat):Int):=by omega
  rw[e];rfl
theorem Hw (P:DP): ∀(k:Nat) (s:Int),(vX P s k).length=k
 |0,_=>rfl
 |k+1,s=>by rw[vX,List.length_cons,Hw P k]
theorem Q4 (P:DP)(hr: ∀v ∈ P.L,v.slot<1024)(hf:P.fr≤1024):zX P≤1023:=by
 have: ∀(l:List ay) (m:Int),(∀v ∈ l,v.slot<1024)→m≤1023→l.foldl (fun m v=>if v.slot>m then v.slot else m) m≤1023:=by
  intro l
  induction l with
  |nil=>intro m _ h;exact h
  |cons v l ih=>
   intro m hl hm
   refine ih _ (fun w hw=>hl w (by simp[hw])) ?_
   have:=hl v (by simp)
   show(if v.slot>m then v.slot else m)≤1023
   split <;> omega
 exact this P.L (P.fr-1) hr (by omega)
theorem Xg (P:DP):P.fr-1≤zX P:=by
 have: ∀(l:List ay) (m:Int),m≤l.foldl (fun m v=>if v.slot>m then v.slot else m) m:=by
  intro l
  induction l with
  |nil=>intro m;exact Int.le_refl _
  |cons v l ih=>
   intro m
   have:=ih (if v.slot>m then v.slot else m)
   have h2:m≤(if v.slot>m then v.slot else m):=by split <;> omega
   exact Int.le_trans h2 this
 exact this P.L _
section
variable (c:Ctx) (mM:dw c) (hQ:bN c) (h16:dS c) (h19:dU c) {H:aa} {K:Value→aa→Prop} {D:Nat→Prop}
include mM h16 h19 in
theorem Xh {P:DP}{u:Value}(hu:eP D H 4 u (P.L.map aG))(hL:P.L.length≤910000)(hr: ∀v ∈ P.L,v.slot<1024)(hf:0≤P.fr∧P.fr≤1024)
 (hK: ∀w H',H.le H'→Grow H' H.next 4 w (P.fill.2.map aG)→K (.tuple #[.agg (fJ P.fill.1 u).toArray,w]) H'):
 c.C (c.F sN) [Ev P u] H K:=by
 refine c.enter h19.GZ rfl ?_
 unfold DP.fill at hK
 obtain⟨a,cp,rfl⟩: ∃a cp,u = .slice a P.L.length cp:=by obtain⟨a,cp,e⟩:=hu.2.len;rw[List.length_map]at e;exact⟨_,_,e⟩
 obtain⟨H0,hH0⟩: ∃X:aa,X=((H.alloc (.cells (fJ P (.slice a P.L.length cp)) false)).alloc (u7 (DP.new 0 0) (.slice none 0 0))):=⟨_,rfl⟩
 have k0:H.le H0:=by rw[hH0];exact(H.aj _).alloc _
 have n0:H0.next=H.next+2:=by rw[hH0];rfl
 have g0:H0.get H.next=some (.cells (fJ P (.slice a P.L.length cp)) false):=by rw[hH0];simp only[YV,YX];repeat (first|rw[if_pos trivial]|rw[if_pos (by omega)]|rw[if_neg (by omega)])
 have g2:H0.get (H.next+1)=some (u7 (DP.new 0 0) (.slice none 0 0)):=by rw[hH0];simp only[YV,YX];repeat (first|rw[if_pos trivial]|rw[if_pos (by omega)]|rw[if_neg (by omega)])
 unfold u7 DP.new at hH0 g2
 have fV:=hH0
 unfold fJ at fV
 have hb:=g0
 by_cases c1:P.leads=false∨P.filled=true
 ·rw[if_pos c1]at hK
  have fin:=hK (.slice none 0 0) (H0.set (H.next+1) (.cells (fJ P (.slice a P.L.length cp)) false)) (k0.set (by omega) _) (Grow.nil _ _ _)
  rcases c1 with c1|c1
  ·rw[c1]at fV
   simp -implicitDefEqProofs [fu,Ev,c1,←fV,g0,g2,OY,OZ,Ny,Nz,O0,O1,NA,O3,O4,O5,O6,O7,O8,rC,rD,eT,nN,O9,xS,oV,qD,PE,PG,Pb]
   exact fin
  ·cases c2:P.leads with
   |false=>
    rw[c2,c1]at fV
    simp -implicitDefEqProofs [fu,Ev,c1,c2,←fV,g0,g2,OY,OZ,Ny,Nz,O0,O1,NA,O3,O4,O5,O6,O7,O8,rC,rD,eT,nN,O9,xS,oV,qD,PE,PG,Pb]
    exact fin
   |true=>
    rw[c2,c1]at fV
    simp -implicitDefEqProofs [fu,Ev,c1,c2,←fV,g0,g2,OY,OZ,Ny,Nz,O0,O1,NA,O3,O4,O5,O6,O7,O8,rC,rD,eT,nN,O9,xS,oV,qD,PE,PG,Pb]
    exact fin
 ·rw[if_neg c1]at hK
  have c2:P.leads=true:=by cases h:P.leads with
   |false=>exact absurd (.inl h) c1
   |true=>rfl
  have c3:P.filled=false:=by cases h:P.filled with
   |true=>exact absurd (.inr h) c1
   |false=>rfl
  rw[c2,c3]at fV
  obtain⟨PF,Ry⟩: ∃PF:DP,PF={P with filled:=true}:=⟨_,rfl⟩
  have hT8:=Pb (P:=P) (u:=.slice a P.L.length cp)
  rw[←Ry]at hK hT8
  obtain⟨H1,hH1⟩: ∃X:aa,X=H0.set H.next (.cells (fJ PF (.slice a P.L.length cp)) false):=⟨_,rfl⟩
  have n1:H1.next=H.next+2:=by rw[hH1,YY];exact n0
  have k1:H.le H1:=by rw[hH1];exact k0.set (Nat.le_refl _) _
  have o1:H1.get H.next=some (.cells (fJ PF (.slice a P.L.length cp)) false):=by rw[hH1,YW,if_pos rfl]
  have r1:H1.get (H.next+1)=H0.get (H.next+1):=by rw[hH1,YW,if_neg (by omega)]
  rw[g2]at r1
  have ef:PF.fr=P.fr:=by rw[Ry]
  have eba:PF.ba=P.ba:=by rw[Ry]
  have ebn:PF.bn=P.bn:=by rw[Ry]
  have wf:IntKind.i64.wrap (P.fr-1)=P.fr-1:=wrap64 (by omega) (by omega)
  simp -implicitDefEqProofs [fu,Ev,c2,c3,←fV,g0,hT8,←hH1,o1,OY,OZ,Ny,Nz,O0,O1,NA,O3,O4,O5,O6,O7,O8,rC,rD,eT,nN,O9,xS,oV,qD,ef,wf]
  refine aS c.mono (fun k T H'=> ∃j:Nat,j≤P.L.length∧k=P.L.length-j∧T 1 = .pointer (some ⟨H.next,0,none⟩)∧T 2 = .pointer (some ⟨H.next+1,0,none⟩)∧T 5 = .int .i64 j∧T 4 = .int .i64 ((P.L.take j).foldl (fun m v=>if v.slot>m then v.slot else m) (P.fr-1))∧H'=H1) P.L.length ?_ ?_
  ·refine⟨0,by omega,rfl,?_⟩
   simp -implicitDefEqProofs []
  ·rintro k T H' ⟨j,hj,rfl,t1,t2,t5,t4,rfl⟩
   have wj:IntKind.i64.wrap ((j:Int)+1)=(j:Int)+1:=wrap64 (by omega) (by omega)
   by_cases hjl:j<P.L.length
   ·have eD:(j:Int)<(P.L.length:Int):=by omega
    obtain⟨v,hv⟩: ∃v,v=P.L[j]:=⟨_,rfl⟩
    have hx:P.L[j]? =some v:=by rw[hv];exact List.getElem?_eq_getElem hjl
    obtain⟨b,o,cc,cs,ro,ea,hbl,hget,hrl,hrow,hbd⟩:=(hu.1.sl.le k1).at (i:=j) (r:=aG v) (by simp[hx])
    rw[List.length_map]at ea
    simp only[Value.slice.injEq]at ea
    obtain⟨rfl,-,rfl⟩:=ea
    have r0:=uh hrow 0 (by omega)
    simp only[aG,List.getElem?_cons_zero,Nat.add_zero]at r0
    obtain⟨m,hm⟩: ∃m,m=(P.L.take j).foldl (fun m v=>if v.slot>m then v.slot else m) (P.fr-1):=⟨_,rfl⟩
    have hm2:(P.L.take (j+1)).foldl (fun m v=>if v.slot>m then v.slot else m) (P.fr-1)=if m<v.slot then v.slot else m:=by rw[List.take_add_one,hx,List.foldl_append,←hm];rfl
    rw[←hm]at t4
    simp -implicitDefEqProofs [t1,t2,t5,t4,hjl,eD,hget,r0,o1,rC,rD,eT,wj]
    exact⟨P.L.length-(j+1),by omega,j+1,by omega,rfl,by simp,hm2.symm⟩
   ·have eD: ¬ (j:Int)<(P.L.length:Int):=by omega
    have uA:j=P.L.length:=by omega
    rw[uA,List.take_length]at t4
    have t4':T 4 = .int .i64 (zX P):=t4
    have hl1:=Q4 P hr hf.2
    have hl2:=Xg P
    obtain⟨M,hM⟩: ∃M:Nat,M=(zX P+1-P.fr).toNat:=⟨_,rfl⟩
    obtain⟨la,hla⟩: ∃la,la=zX P:=⟨_,rfl⟩
    rw[←hM]at hK
    rw[←hla]at t4' hl1 hl2 hM
    simp -implicitDefEqProofs [t1,t2,t5,t4',hjl,eD,o1,rC,rD,eT,Ny,Nz,ef]
    refine aS c.mono (fun k T H2=> ∃i:Nat,i≤M∧k=M-i∧T 1 = .pointer (some ⟨H.next,0,none⟩)∧T 2 = .pointer (some ⟨H.next+1,0,none⟩)∧T 4 = .int .i64 la∧T 7 = .int .i64 (P.fr+i)∧H'.le H2∧Gr H2 H'.next 4 (T 6) ((vX P P.fr i).map aG)) M ?_ ?_
    ·refine⟨0,by omega,rfl,?_⟩
     simp -implicitDefEqProofs [t1,t2,t5,t4']
     exact⟨aa.le_refl _,Gr.nil _ _ _⟩
    ·rintro k T H2 ⟨i,hi,rfl,t1,t2,t4,t7,k2,Rz⟩
     have n2:=k2.next
     have o2:=(k2.get H.next (by omega)).trans o1
     have r2:=(k2.get (H.next+1) (by omega)).trans r1
     have u2:=hu.1.sl.le (k1.trans k2)
     by_cases hiM:i<M
     ·have hs:P.fr+i≤la:=by omega
      simp -implicitDefEqProofs [t1,t2,t4,t7,hs]
      refine aS c.mono (fun k T' H3=> ∃j:Nat,j≤P.L.length∧k=P.L.length-j∧T' 1 = .pointer (some ⟨H.next,0,none⟩)∧T' 2 = .pointer (some ⟨H.next+1,0,none⟩)∧T' 4 = .int .i64 la∧T' 6=T 6∧T' 7 = .int .i64 (P.fr+i)∧T' 9 = .int .i64 j∧H2.le H3∧Gr H3 H2.next 4 (T' 8) ((jQ (P.L.take j) (P.fr+i)).map aG)) P.L.length ?_ ?_
      ·refine⟨0,by omega,rfl,?_⟩
       simp -implicitDefEqProofs [t1,t2,t4,t7]
       exact⟨aa.le_refl _,Gr.nil _ _ _⟩
      ·rintro k T' H3 ⟨j,hj,rfl,t1,t2,t4,t6,t7,t9,k3,IB⟩
       have n3:=k3.next
       have o3:=(k3.get H.next (by omega)).trans o2
       have wj:IntKind.i64.wrap ((j:Int)+1)=(j:Int)+1:=wrap64 (by omega) (by omega)
       have hol:(jQ (P.L.take j) (P.fr+i)).length≤910000:=by
        have:=List.length_filter_le (fun v:ay=>decide (v.slot=P.fr+i)) (P.L.take j)
        rw[List.length_take]at this
        unfold jQ;omega
       by_cases hjl:j<P.L.length
       ·have eD:(j:Int)<(P.L.length:Int):=by omega
        obtain⟨v,hv⟩: ∃v,v=P.L[j]:=⟨_,rfl⟩
        have hx:P.L[j]? =some v:=by rw[hv];exact List.getElem?_eq_getElem hjl
        obtain⟨b,o,cc,cs,ro,ea,hbl,hget,hrl,hrow,hbd⟩:=(u2.le k3).at (i:=j) (r:=aG v) (by simp[hx])
        rw[List.length_map]at ea
        simp only[Value.slice.injEq]at ea
        obtain⟨rfl,-,rfl⟩:=ea
        have r0:=uh hrow 0 (by omega)
        simp only[aG,List.getElem?_cons_zero,Nat.add_zero]at r0
        have hsn:=IE (P.L.take j) (P.fr+i) v
        have htk:P.L.take (j+1)=P.L.take j++[v]:=by rw[List.take_add_one,hx];rfl
        rw[←htk]at hsn
        by_cases hsl:v.slot=P.fr+i
        ·rw[if_pos hsl]at hsn
         obtain⟨v4,H4,e4,El,q4,-⟩:=El IB (aa.le_refl _) (by omega) (by omega) v
         have f4:=MJ H3 v
         rw[←hsn]at El
         simp only[aG]at f4 e4 hrow
         rw[hsl]at f4 e4 hrow r0
         simp -implicitDefEqProofs [t1,t2,t4,t6,t7,t9,hjl,eD,hget,r0,hrow,hbd,o3,rC,rD,eT,bG,f4,e4,wj]
         exact⟨P.L.length-(j+1),by omega,j+1,by omega,rfl,by simp,((k3.keep (Nat.le_refl _)).trans q4).le (Nat.le_refl _),El⟩
        ·rw[if_neg hsl,List.append_nil]at hsn
         simp -implicitDefEqProofs [t1,t2,t4,t6,t7,t9,hjl,eD,hget,r0,o3,rC,rD,eT,hsl,wj]
         exact⟨P.L.length-(j+1),by omega,j+1,by omega,rfl,by simp,k3,by rw[hsn];exact IB⟩
       ·have eD: ¬ (j:Int)<(P.L.length:Int):=by omega
        have uA:j=P.L.length:=by omega
        rw[uA,List.take_length]at IB hol
        simp -implicitDefEqProofs [t1,t2,t4,t6,t7,t9,hjl,eD,o3,rC,rD,eT]
        refine av (SK c mM h16 IB.grow.Lg (by omega) fun H4 k4=> ?_)
        have n4:=k4.next
        obtain⟨mv,hmv⟩: ∃mv,mv=yM (jQ P.L (P.fr+i)):=⟨_,rfl⟩
        obtain⟨bb,hbb⟩: ∃bb,bb=decide (0<(jQ P.L (P.fr+i)).length):=⟨_,rfl⟩
        unfold W9
        rw[←hmv,←hbb]
        obtain⟨H5,hH5⟩: ∃X:aa,X=(H4.alloc (.cells [.int .i64 0,.int .i64 0,.int .i64 0,.string ⟨#[]⟩] false)).set H4.next (.cells [.int .i64 mv.slot,.int .i64 mv.a,.int .i64 mv.n,.string mv.val] false):=⟨_,rfl⟩
        have k5:H4.le H5:=by rw[hH5];exact(H4.aj _).set (Nat.le_refl _) _
        have n5:H5.next=H4.next+1:=by rw[hH5];rfl
        have b5:H5.get H4.next=some (.cells [.int .i64 mv.slot,.int .i64 mv.a,.int .i64 mv.n,.string mv.val] false):=by rw[hH5,YW,if_pos rfl]
        have o5:=(k5.get H.next (by omega)).trans ((k4.get H.next (by omega)).trans o3)
        obtain⟨x,hxx⟩: ∃x:ay,x=⟨P.fr+i,P.ba,P.bn,mv.val⟩:=⟨_,rfl⟩
        obtain⟨v6,H6,e6,XK,q6,-⟩:=El Rz ((k3.trans k4).trans k5) (by omega) (by rw[Hw];omega) x
        have f6:=MJ H5 x
        have hsn:=LZ P i P.fr
        rw[←hmv,←hxx]at hsn
        rw[←hsn]at XK
        have wi:IntKind.i64.wrap (P.fr+i+1)=P.fr+i+1:=wrap64 (by omega) (by omega)
        rw[hxx]at e6 f6
        simp only[aG]at e6 f6
        simp -implicitDefEqProofs [t1,t2,t4,t6,t7,t9,vV,←hH5,o5,b5,NA,eT,eba,ebn,bG,f6,e6,wi]
        have k26:H'.le H6:=(((k2.trans ((k3.trans k4).trans k5)).keep (Nat.le_refl _)).trans q6).le (Nat.le_refl _)
        exact⟨M-(i+1),by omega,i+1,by omega,rfl,by omega,k26,XK⟩
     ·have hs: ¬ P.fr+i≤la:=by omega
      have qbD:i=M:=by omega
      obtain⟨va,vc,hvv⟩:=Rz.grow.len
      rw[hvv]at Rz
      simp -implicitDefEqProofs [t1,t2,t4,t7,hs,hvv,o2,r2,eT,nN,qD]
      have hfin:=hK (.slice va ((vX P P.fr i).map aG).length vc) (H2.set (H.next+1) (.cells (fJ PF (.slice a P.L.length cp)) false)) ((k1.trans k2).set (by omega) _) (by rw[←qbD];exact(Rz.set (by omega) _).grow.weak (by omega))
      rw[←qbD]at hfin
      rw[List.length_map]at hfin
      exact hfin
end
end
section
theorem UX {α:Type}(p:α→Bool)(l:List α)(i:Nat)(x:α)(h:l[i]? =some x)(h0:(l.take i).find? p=none):
 (p x=true→l.find? p=some x)∧(p x=false→(l.take (i+1)).find? p=none):=by
 have e:l.take (i+1)=l.take i++[x]:=by rw[List.take_add_one,h];rfl
 refine⟨fun hp=> ?_,fun hp=>by rw[e,List.find?_append,h0];simp[hp]⟩
 have e2:l=l.take (i+1)++l.drop (i+1):=(List.take_append_drop _ _).symm
 rw[e2,List.find?_append,e,List.find?_append,h0]
 simp[hp]
def Di (l:DL)(s:Int)(p:Int×ByteArray):Bool:=decide (p.1=s)&&decide (l.base≤s)
theorem FP (l:DL)(s:Int):kU l s=(l.told.find? (Di l s)).map (·.2):=rfl
def Xi (l:DL)(s:Int)(j:Nat):Prop:=(l.told.take j).find? (Di l s)=none
def stV (o:Option ByteArray):Value:=.tuple #[.string (o.getD Pz),.bool o.isSome]
section
variable (c:Ctx) (mM:dw c) (hQ:bN c) (h19:dU c) (h20:eG c) {H:aa} {K:Value→aa→Prop} {D:Nat→Prop}
include hQ h19 in
theorem NB {n me:Int}(hK: ∀b H',H.le H'→K (.tuple #[.agg (fJ (DP.new n me) (.slice none 0 0)).toArray,.bool b]) H'):c.C (c.F Fy) [.int .i64 n,.int .i64 me] H K:=by
 refine c.enter h19.I1 rfl ?_
 simp -implicitDefEqProofs [oI]
 refine av (lM c hQ ?_)
 by_cases h1:0<aO n
 ·by_cases h2:0≤me
  ·by_cases h3:me<n
   ·simp -implicitDefEqProofs [h1,h2,h3]
    exact hK _ _ (by(repeat' first|exact aa.le_refl _|assumption|apply aa.le.alloc|(refine aa.le.set ?_ (by(try simp only[YX,YY]);omega) _)|(refine aa.le.trans ?_ (by assumption))))
   ·simp -implicitDefEqProofs [h1,h2,h3]
    exact hK _ _ (by(repeat' first|exact aa.le_refl _|assumption|apply aa.le.alloc|(refine aa.le.set ?_ (by(try simp only[YX,YY]);omega) _)|(refine aa.le.trans ?_ (by assumption))))
  ·simp -implicitDefEqProofs [h1,h2]
   exact hK _ _ (by(repeat' first|exact aa.le_refl _|assumption|apply aa.le.alloc|(refine aa.le.set ?_ (by(try simp only[YX,YY]);omega) _)|(refine aa.le.trans ?_ (by assumption))))
 ·simp -implicitDefEqProofs [h1]
  exact hK _ _ (by(repeat' first|exact aa.le_refl _|assumption|apply aa.le.alloc|(refine aa.le.set ?_ (by(try simp only[YX,YY]);omega) _)|(refine aa.le.trans ?_ (by assumption))))
include hQ h20 in
theorem NC {n:Int}(hK: ∀b H',H.le H'→K (.tuple #[Gv ⟨n,0,[],[]⟩ (.slice none 0 0) (.slice none 0 0),.bool b]) H'):c.C (c.F Fz) [.int .i64 n] H K:=by
 refine c.enter h20.I4 rfl ?_
 simp -implicitDefEqProofs [oJ]
 refine av (lM c hQ ?_)
 simp -implicitDefEqProofs []
 exact hK _ _ (by(repeat' first|exact aa.le_refl _|assumption|apply aa.le.alloc|(refine aa.le.set ?_ (by(try simp only[YX,YY]);omega) _)|(refine aa.le.trans ?_ (by assumption))))
include h20 in
theorem L6 {l:DL}{u v:Value}{s:Int}(hu:qJ H 2 u (l.told.map kT))(hl:l.told.length≤1000000)(hK: ∀H',H.le H'→K (stV (kU l s)) H'):c.C (c.F D7) [Gv l u v,.int .i64 s] H K:=by
 refine c.enter h20.G7 rfl ?_
 rw[FP]at hK
 obtain⟨a,cp,rfl⟩: ∃a cp,u = .slice a l.told.length cp:=by obtain⟨a,cp,e,_⟩:=hu;rw[List.length_map]at e;exact⟨_,_,e⟩
 obtain⟨H0,hH0⟩: ∃X:aa,X=H.alloc (.cells [.int .i64 l.n,.int .i64 l.base,.slice a l.told.length cp,v] false):=⟨_,rfl⟩
 have k0:H.le H0:=by rw[hH0];exact H.aj _
 have g0:H0.get H.next=some (.cells [.int .i64 l.n,.int .i64 l.base,.slice a l.told.length cp,v] false):=by rw[hH0,YV,if_pos rfl]
 simp -implicitDefEqProofs [nk,Gv,←hH0]
 refine aS c.mono (fun k T H'=> ∃j:Nat,j≤l.told.length∧k=l.told.length-j∧T 1 = .int .i64 s∧T 2 = .pointer (some ⟨H.next,0,none⟩)∧T 6 = .int .i64 j∧H'=H0∧Xi l s j) l.told.length ?_ ?_
 ·refine⟨0,by omega,rfl,?_⟩
  simp -implicitDefEqProofs []
  show(l.told.take 0).find? _=none
  simp
 ·rintro k T H' ⟨j,hj,rfl,t1,t2,t6,rfl,hf⟩
  have wj:IntKind.i64.wrap ((j:Int)+1)=(j:Int)+1:=wrap64 (by omega) (by omega)
  by_cases hjl:j<l.told.length
  ·have eD:(j:Int)<(l.told.length:Int):=by omega
   obtain⟨x,hxe⟩: ∃x,x=l.told[j]:=⟨_,rfl⟩
   have hx:l.told[j]? =some x:=by rw[hxe];exact List.getElem?_eq_getElem hjl
   obtain⟨f1,f2⟩:=UX (Di l s) l.told j x hx hf
   obtain⟨b,o,cc,cs,ro,ea,hbl,hget,hrl,hrow,hbd⟩:=(hu.le k0).at (i:=j) (r:=kT x) (by simp[hx])
   rw[List.length_map]at ea
   simp only[Value.slice.injEq]at ea
   obtain⟨rfl,-,rfl⟩:=ea
   have r0:=uh hrow 0 (by omega)
   have r1:=uh hrow 1 (by omega)
   simp only[kT,List.getElem?_cons_zero,List.getElem?_cons_succ,Nat.add_zero]at r0 r1
   by_cases e1:x.1=s
   ·by_cases e2:l.base≤s
    ·have Wq:=f1 (by unfold Di;rw[decide_eq_true e1,decide_eq_true e2];rfl)
     rw[e1]at r0
     simp -implicitDefEqProofs [t1,t2,t6,hjl,eD,hget,r0,r1,g0,e1,e2]
     rw[Wq]at hK
     exact hK _ k0
    ·have f2':=f2 (by unfold Di;rw[decide_eq_false e2,Bool.and_false])
     rw[e1]at r0
     simp -implicitDefEqProofs [t1,t2,t6,hjl,eD,hget,r0,r1,g0,e1,e2,wj]
     exact⟨l.told.length-(j+1),by omega,j+1,by omega,rfl,by simp,f2'⟩
   ·have f2':=f2 (by unfold Di;rw[decide_eq_false e1,Bool.false_and])
    simp -implicitDefEqProofs [t1,t2,t6,hjl,eD,hget,r0,r1,g0,e1,wj]
    exact⟨l.told.length-(j+1),by omega,j+1,by omega,rfl,by simp,f2'⟩
  ·have eD: ¬ (j:Int)<(l.told.length:Int):=by omega
   have uA:j=l.told.length:=by omega
   unfold Xi at hf
   rw[uA,List.take_length]at hf
   simp -implicitDefEqProofs [t1,t2,t6,hjl,eD,g0]
   rw[hf]at hK
   exact hK _ k0
include h20 in
theorem TP {l:DL}{u v:Value}{s:Int}{t:ByteArray}(hu:qJ H 2 u (l.told.map kT))(hl:l.told.length≤1000000)(hK: ∀H',H.le H'→K (.bool (Ej l s t)) H'):c.C (c.F FC) [Gv l u v,.int .i64 s,.string t] H K:=by
 refine c.enter h20.I6 rfl ?_
 unfold Ej at hK
 obtain⟨H0,hH0⟩: ∃X:aa,X=H.alloc (.cells [.int .i64 l.n,.int .i64 l.base,u,v] false):=⟨_,rfl⟩
 have k0:H.le H0:=by rw[hH0];exact H.aj _
 have g0:H0.get H.next=some (.cells [.int .i64 l.n,.int .i64 l.base,u,v] false):=by rw[hH0,YV,if_pos rfl]
 have n0:H0.next=H.next+1:=by rw[hH0];rfl
 have hsz:t.data.toList.length=t.size:=rfl
 simp -implicitDefEqProofs [oL,Gv,←hH0,g0]
 refine av (L6 c h20 (l:=l) (u:=u) (v:=v) (s:=s) (hu.le k0) hl fun H1 k1=> ?_)
 have g1:=(k1.get H.next (by omega)).trans g0
 have nI:=k0.trans k1
 unfold stV
 cases ht:kU l s with
 |some w=>
  rw[ht]at hK
  simp -implicitDefEqProofs []
  exact hK _ nI
 |none=>
  rw[ht]at hK
  by_cases e1:l.base≤s
  ·by_cases e2:s<1024
   ·by_cases e3:t.size≤4096
    ·have e3':(t.size:Int)≤4096:=by omega
     simp -implicitDefEqProofs [g1,e1,e2,e3,e3',hsz]
     rw[decide_eq_true e1,decide_eq_true e2,decide_eq_true e3]at hK
     exact hK _ nI
    ·have e3': ¬ (t.size:Int)≤4096:=by omega
     simp -implicitDefEqProofs [g1,e1,e2,e3,e3',hsz]
     rw[decide_eq_true e1,decide_eq_true e2,decide_eq_false e3]at hK
     exact hK _ nI
   ·simp -implicitDefEqProofs [g1,e1,e2]
    rw[decide_eq_true e1,decide_eq_false e2]at hK
    exact hK _ nI
  ·simp -implicitDefEqProofs [g1,e1]
   rw[decide_eq_false e1]at hK
   exact hK _ nI
end
end
section
theorem UY (L:List (Int×ByteArray)):(L.map kT).flatten.all cO=true:=by
 rw[List.all_eq_true]
 intro x hx
 obtain⟨r,hr,hx⟩:=List.mem_flatten.1 hx
 obtain⟨v,_,rfl⟩:=List.mem_map.1 hr
 simp only[kT,List.mem_cons,List.not_mem_nil,or_false]at hx
 rcases hx with rfl|rfl <;> rfl
theorem UZ (L:List (Int×ByteArray)): ∀r ∈ L.map kT,r.length=2:=by
 intro r hr
 obtain⟨x,_,rfl⟩:=List.mem_map.1 hr
 rfl
theorem nJ (H:aa)(size:Nat)(r:List Value)(hr:r.length=size)(h0:0<size):aZ (H.alloc (.cells r false)) size 1 (.slice (some ⟨H.next,0,none⟩) 1 1)=some r:=by
 have h1: ¬ size=0:=by omega
 simp[aZ,aa.aP,YV,h1,←hr]
section
variable (c:Ctx) (mM:dw c) (hQ:bN c) (h20:eG c) {H:aa} {K:Value→aa→Prop} {D:Nat→Prop}
include h20 in
theorem Q5 {l:DL}{u:Value}{va:Option Addr}{vn vc:Nat}{s:Int}{t:ByteArray}(hu:eP D H 2 u (l.told.map kT))(hl:l.told.length≤1000000)
 (hK: ∀u' H',H.le H'→eP (Nw D H H') H' 2 u' ((l.tell s t).1.told.map kT)→K (.tuple #[Gv (l.tell s t).1 u' (.slice va vn vc),.bool (l.tell s t).2]) H'):
 c.C (c.F D8) [Gv l u (.slice va vn vc),.int .i64 s,.string t] H K:=by
 refine c.enter h20.G8 rfl ?_
 unfold DL.tell at hK
 obtain⟨a,cp,rfl⟩: ∃a cp,u = .slice a l.told.length cp:=by obtain⟨a,cp,e⟩:=hu.2.len;rw[List.length_map]at e;exact⟨_,_,e⟩
 obtain⟨H0,hH0⟩: ∃X:aa,X=(H.alloc (.cells [.int .i64 l.n,.int .i64 l.base,.slice a l.told.length cp,.slice va vn vc] false)).alloc (.cells [.int .i64 0,.int .i64 0,.slice none 0 0,.slice none 0 0] false):=⟨_,rfl⟩
 have k0:H.le H0:=by rw[hH0];exact(H.aj _).alloc _
 have n0:H0.next=H.next+2:=by rw[hH0];rfl
 have g0:H0.get H.next=some (.cells [.int .i64 l.n,.int .i64 l.base,.slice a l.told.length cp,.slice va vn vc] false):=by rw[hH0];simp only[YV,YX];repeat (first|rw[if_pos trivial]|rw[if_pos (by omega)]|rw[if_neg (by omega)])
 have g1:H0.get (H.next+1)=some (.cells [.int .i64 0,.int .i64 0,.slice none 0 0,.slice none 0 0] false):=by rw[hH0];simp only[YV,YX];repeat (first|rw[if_pos trivial]|rw[if_pos (by omega)]|rw[if_neg (by omega)])
 simp -implicitDefEqProofs [ny,Gv,←hH0,g0]
 refine av (TP c h20 (l:=l) (s:=s) (t:=t) (hu.1.sl.le k0) hl fun H1 k1=> ?_)
 have n1:=k1.next
 have e0:=(k1.get H.next (by omega)).trans g0
 have e1:=(k1.get (H.next+1) (by omega)).trans g1
 have nI:=k0.trans k1
 cases hm:Ej l s t with
 |false=>
  rw[hm,if_neg (by simp)]at hK
  simp -implicitDefEqProofs [e0,e1]
  exact hK _ _ (nI.set (i:=H.next+1) (by omega) _) ((hu.le (nI.set (i:=H.next+1) (by omega) _)).weak fun b hb=>.inl hb)
 |true=>
  rw[hm,if_pos rfl]at hK
  have u1:=(hu.le nI).2
  have uf:=u1.first (by omega)
  rw[List.length_map]at uf
  obtain⟨v2,H2,Vk,Rz,q2,-⟩:=(Gr.nil H1 H1.next 2).many (bytes:=24) (aa.le_refl _) (Nat.le_refl _) (by omega) (by omega) (new:=l.told.map kT) (by rw[List.length_map];simp;omega) (by rw[List.length_map];simp;omega) (UZ _) (UY l.told)
  rw[List.length_map]at Vk
  rw[List.nil_append]at Rz
  have k2:H1.le H2:=q2.le (Nat.le_refl _)
  obtain⟨v3,H3,ap3,IB,q3,-⟩:=Rz.one (H1:=H2.alloc (.cells [.int .i64 s,.string t] false)) (bytes:=24) (r:=[.int .i64 s,.string t]) (H2.aj _) (by rw[YX];have:=k2.next;omega) (by omega) (by omega) (by rw[List.length_map];omega) (by rw[List.length_map];omega) rfl rfl
  have f3:=nJ H2 2 [.int .i64 s,.string t] rfl (by omega)
  have k3:H1.le H3:=((k2.alloc (.cells [.int .i64 s,.string t] false)).keep (Nat.le_refl _) |>.trans q3).le (Nat.le_refl _)
  have n3:=k3.next
  have o3:=(k3.get H.next (by omega)).trans e0
  have r3:=(k3.get (H.next+1) (by omega)).trans e1
  have n2:=k2.next
  have hrow:(l.told.map kT)++[[.int .i64 s,.string t]]=(l.told++[(s,t)]).map kT:=by rw[List.map_append];rfl
  rw[hrow]at IB
  obtain⟨wa,wc,hvv⟩: ∃wa wc,v3 = .slice wa (l.told.length+1) wc:=by obtain⟨a,cp,e⟩:=IB.grow.len;rw[List.length_map,List.length_append]at e;exact⟨_,_,e⟩
  rw[hvv]at IB ap3
  simp -implicitDefEqProofs [e0,e1,bG,uf,Vk,f3,ap3,o3,r3]
  have hle: ∀o1 o2,H.le ((H3.set H.next o1).set (H.next+1) o2):=fun o1 o2=>((nI.trans k3).set (Nat.le_refl _) _).set (by omega) _
  exact hK _ _ (hle _ _) (((IB.set (by omega) _).set (by omega) _).grow.nw (by omega))
include h20 in
theorem L8 {l:DL}{u v:Value}(hu:qJ H 2 u (l.told.map kT))(hl:l.told.length≤1000000)(hb:0≤l.base∧l.base≤1024)(hK: ∀H',H.le H'→K (.int .i64 (kV l)) H'):c.C (c.F D6) [Gv l u v] H K:=by
 refine c.enter h20.G6 rfl ?_
 obtain⟨M,hM⟩: ∃M:Nat,M=(1024-l.base).toNat:=⟨_,rfl⟩
 unfold kV at hK
 rw[←hM]at hK
 obtain⟨H0,hH0⟩: ∃X:aa,X=H.alloc (.cells [.int .i64 l.n,.int .i64 l.base,u,v] false):=⟨_,rfl⟩
 have k0:H.le H0:=by rw[hH0];exact H.aj _
 have g0:H0.get H.next=some (.cells [.int .i64 l.n,.int .i64 l.base,u,v] false):=by rw[hH0,YV,if_pos rfl]
 have n0:H0.next=H.next+1:=by rw[hH0];rfl
 simp -implicitDefEqProofs [ni,Gv,←hH0,g0]
 refine aS c.mono (fun k T H'=> ∃j:Nat,j≤M∧k=M-j∧T 1 = .pointer (some ⟨H.next,0,none⟩)∧T 3 = .int .i64 (l.base+j)∧H0.le H'∧scanUp (fun s=>(kU l s).isSome) l.base M=scanUp (fun s=>(kU l s).isSome) (l.base+j) (M-j)) M ?_ ?_
 ·refine⟨0,by omega,rfl,?_⟩
  simp -implicitDefEqProofs []
  exact aa.le_refl _
 ·rintro k T H' ⟨j,hj,rfl,t1,t3,kH,hs⟩
  have nH:=kH.next
  have gH:=(kH.get H.next (by omega)).trans g0
  have wj:IntKind.i64.wrap (l.base+j+1)=l.base+j+1:=wrap64 (by omega) (by omega)
  by_cases hjM:j<M
  ·have h1:l.base+j<1024:=by omega
   have hsc:scanUp (fun s=>(kU l s).isSome) (l.base+j) (M-j)=if (kU l (l.base+j)).isSome then scanUp (fun s=>(kU l s).isSome) (l.base+j+1) (M-(j+1))else l.base+j:=by
    have:M-j=(M-(j+1))+1:=by omega
    rw[this];rfl
   simp -implicitDefEqProofs [t1,t3,h1,gH]
   refine av (L6 c h20 (l:=l) (s:=l.base+j) (hu.le (k0.trans kH)) hl fun H1 k1=> ?_)
   unfold stV
   cases ht:kU l (l.base+j)with
   |none=>
    rw[ht]at hsc
    simp -implicitDefEqProofs [t1,t3]
    have:=hK H1 ((k0.trans kH).trans k1)
    rw[hs,hsc]at this
    exact this
   |some w=>
    rw[ht]at hsc
    simp -implicitDefEqProofs [t1,t3,wj]
    refine⟨M-(j+1),by omega,j+1,by omega,rfl,by omega,kH.trans k1,?_⟩
    rw[hs,hsc,if_pos (show(some w).isSome=true from rfl)]
    congr 1
    omega
  ·have h1: ¬ l.base+j<1024:=by omega
   have hz:M-j=0:=by omega
   simp -implicitDefEqProofs [t1,t3,h1]
   have:=hK H' (k0.trans kH)
   rw[hs,hz]at this
   exact this
end
end
end
end Go.Proofs.YtpbbjfighohokaaGreatI
