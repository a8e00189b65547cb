/- A node of the document's and one of the program's: alike in what they take (plain). / All the document's nodes and the program's: alike, deed by deed (plain). / What the document's nodes keep (plain). / What the document's nodes keep, deed by deed; new ones (plain). / The document's nodes, all of th -/
import Derived.Test.YtpbbjfighohokaaGreatDcZb
import Derived.Test.YtpbbjfighohokaaGreatRpO
import Derived.Test.YtpbbjfighohokaaGreatDoc17
import Derived.Test.YtpbbjfighohokaaGreatBalC
namespace Go.Proofs.YtpbbjfighohokaaGreatI
open Go
set_option linter.unusedSimpArgs false
set_option linter.unusedVariables false
theorem RN.ask {R:DR}{Q:Rp}(h:RN R Q)(i:Int):R.ask i=Q.ask i:=by
 unfold DR.ask Rp.ask Rp.isNode Sz
 rw[h.n,h.me,h.L.next]
 by_cases h1:i<0
 ·rw[if_pos (.inl h1),if_neg (by simp;omega)]
 ·by_cases h2:Q.n≤i
  ·rw[if_pos (.inr h2),if_neg (by simp;omega)]
  ·rw[if_neg (by omega),if_pos (by simp;omega)]
theorem RN.tell {R:DR}{Q:Rp}(h:RN R Q)(x:az):R.tell x=Q.tell x:=by
 unfold DR.tell Rp.tell OV yh
 rw[h.L.log,h.me,h.L.pb,h.L.qb]
theorem RN.take {R:DR}{Q:Rp}(h:RN R Q)(hn:0≤Q.P.n∧Q.P.n≤7)(x:az)(ho:(Q.P.promise x.fr x.ba x.bn x.ai).1.ok):RN (R.take x).1 (Q.take x).1∧(R.take x).2=(Q.take x).2:=by
 have hc:(x.to≠R.me∨x.fr<0∨R.n≤x.fr)↔(Q.isNode x.fr=false∨x.to≠Q.me):=by
  unfold Rp.isNode
  rw[h.me,h.n]
  simp only[Bool.and_eq_false_iff,decide_eq_false_iff_not]
  omega
 unfold DR.take Rp.take
 by_cases hz:Q.isNode x.fr=false∨x.to≠Q.me
 ·rw[if_pos hz,if_pos (hc.2 hz)];exact⟨h,rfl⟩
 ·rw[if_neg hz,if_neg (fun z=>hz (hc.1 z))]
  by_cases k1:x.kind=1
  ·rw[if_pos k1,if_pos k1];exact h.bQ x
  ·rw[if_neg k1,if_neg k1]
   by_cases k2:x.kind=2
   ·rw[if_pos k2,if_pos k2];exact h.promise hn x ho
   ·rw[if_neg k2,if_neg k2]
    by_cases k5:x.kind=5
    ·rw[if_pos k5,if_neg (by omega),if_neg (by omega),if_pos k5];exact⟨h,h.tell x⟩
    ·rw[if_neg k5]
     by_cases k6:x.kind=6
     ·rw[if_pos k6,if_neg (by omega),if_neg (by omega),if_neg k5,if_pos k6]
      exact⟨⟨h.n,h.me,h.A,h.P,h.L.tells x.ai⟩,rfl⟩
     ·rw[if_neg k6,if_neg k5,if_neg k6]
      by_cases k3:x.kind=3∧x.ai.length=1
      ·rw[if_pos k3,if_pos k3]
       have hs:=h.step (gF x.ai).a (gF x.ai).n
       unfold Rp.accept
       rw[h.A]
       refine⟨⟨hs.n,hs.me,rfl,hs.P,hs.L⟩,?_⟩
       simp only[h.all]
      ·rw[if_neg k3,if_neg k3]
       by_cases k4:x.kind=4∧x.ai.length=1
       ·rw[if_pos k4,if_pos k4]
        exact⟨⟨h.n,h.me,h.A,h.P,h.L.hear x.fr (gF x.ai)⟩,rfl⟩
       ·rw[if_neg k4,if_neg k4];exact⟨h,rfl⟩
theorem RN.gM {R:DR}{Q:Rp}(h:RN R Q)(hb:Q.A.base=0):RN R.gM Q.gM:=by
 have hL:(zP ⟨Q.n,0,fun _=>none,fun _=>none⟩ Q.A.base.toNat)=⟨Q.n,0,fun _=>none,fun _=>none⟩:=by rw[hb];rfl
 have ht: ∀l:Lr,l.base=0→0≤gD l→DI l 0=0:=by
  intro l h0 h1
  unfold DI
  rw[h0]
  repeat' split
  all_goals omega
 have hn:gD ⟨Q.n,0,fun _=>none,fun _=>none⟩=0:=by
  unfold gD;rfl
 unfold DR.gM Rp.gM
 rw[h.n,h.me,h.A,hL,hb,ht _ rfl (by rw[hn];omega)]
 refine⟨rfl,rfl,rfl,RP.new _ _,⟨rfl,rfl,rfl,fun s=> ?_,fun s fr _=>rfl,.nil,fun x hx=>by cases hx⟩⟩
 show none=(if (0:Int)≤s∧s<0 then none else none)
 split <;> rfl
theorem xV (A:Acc)(a n s:Int):(A.promise a n s).1.base=A.base:=by unfold Acc.promise;split <;> rfl
theorem Re (A:Acc)(v:ay):(A.accept v).1.base=A.base:=by unfold Acc.accept;split <;> rfl
theorem Ve (Q:Rp):Q.lead.1.A.base=Q.A.base:=by unfold Rp.lead;split;rfl;exact xV _ _ _ _
theorem Vf (Q:Rp)(x:az):(Q.take x).1.A.base=Q.A.base:=by
 unfold Rp.take
 split
 ·rfl
 split
 ·unfold Rp.bQ
  split
  ·rfl
  split
  ·exact xV _ _ _ _
  ·exact xV _ _ _ _
 split
 ·unfold Rp.promise
  split
  ·rfl
  split <;> rfl
 split
 ·exact Re _ _
 split
 ·rfl
 split
 ·rfl
 split <;> rfl
theorem RN.ax {R:DR}{Q:Rp}(h:RN R Q)(s:ByteArray):RN (R.ax s).1 (Q.ax s).1∧(R.ax s).2=(Q.ax s).2:=by
 obtain⟨h1,h2⟩:=h.P.ax s
 unfold DR.ax Rp.ax
 rw[h2]
 by_cases hz:(Q.P.ax s).2≠0
 ·rw[if_pos hz,if_pos hz];exact⟨h,rfl⟩
 ·rw[if_neg hz,if_neg hz]
  refine⟨⟨h.n,h.me,h.A,h1,h.L⟩,?_⟩
  have hv:(R.P.ax s).2.1=Q.P.vK s:=by
   have hz':(R.P.ax s).2.2=0:=by rw[h2];simpa using hz
   unfold DP.ax at hz' ⊢
   unfold bC.vK
   split
   ·rename_i c;rw[if_pos c]at hz';simp at hz'
   ·rename_i c;rw[if_neg c]at hz'
    split
    ·rename_i c2;rw[if_pos c2]at hz';simp at hz'
    ·rename_i c2;rw[if_neg c2]at hz'
     split
     ·rename_i c3;rw[if_pos c3]at hz';simp at hz'
     ·rw[h.P.next,h.P.ba,h.P.bn,if_pos (by simpa using hz)]
  rw[hv,h.all]
theorem Pk (Q:Rp)(s:ByteArray):(Q.ax s).1.A.base=Q.A.base:=by unfold Rp.ax;split <;> rfl
structure RS (S:DT)(T:Tp):Prop where
 way:S.way=T.way
 len:S.R.length=T.R.length
 nd: ∀(i:Nat) (R:DR) (Q:Rp),S.R[i]? =some R→T.R[i]? =some Q→RN R Q∧Q.A.base=0
theorem RS.at {S:DT}{T:Tp}(h:RS S T)(i:Int):(S.at i=none∧T.at i=none)∨∃R Q,S.at i=some R∧T.at i=some Q∧S.R[i.toNat]? =some R∧T.R[i.toNat]? =some Q∧RN R Q∧Q.A.base=0:=by
 unfold DT.at Tp.at
 by_cases hi:0≤i
 ·rw[if_pos hi,if_pos hi]
  cases hR:S.R[i.toNat]? with
  |none=>
   left
   have:=List.getElem?_eq_none_iff.1 hR
   exact⟨rfl,List.getElem?_eq_none_iff.2 (by rw[←h.len];exact this)⟩
  |some R=>
   right
   have hl:=(List.getElem?_eq_some_iff.1 hR).1
   have hQ:T.R[i.toNat]? =some (T.R[i.toNat]'(by rw[←h.len];exact hl)):=List.getElem?_eq_getElem _
   obtain⟨q1,q2⟩:=h.nd i.toNat R _ hR hQ
   exact⟨R,_,rfl,hQ,rfl,hQ,q1,q2⟩
 ·rw[if_neg hi,if_neg hi];exact .inl ⟨rfl,rfl⟩
theorem RS.say {S:DT}{T:Tp}(h:RS S T){i:Nat}{R:DR}{Q:Rp}{l:List az}(hn:RN R Q)(hb:Q.A.base=0):RS (S.say i (R,l)) (T.say i (Q,l)):=by
 refine⟨?_,?_,fun j R' Q' hR hQ=> ?_⟩
 ·show DX S.way l=DX T.way l
  rw[h.way]
 ·show(S.R.set i R).length=(T.R.set i Q).length
  rw[List.length_set,List.length_set,h.len]
 ·have hR:(S.R.set i R)[j]? =some R':=hR
  have hQ:(T.R.set i Q)[j]? =some Q':=hQ
  rw[List.getElem?_set]at hR hQ
  by_cases hij:i=j
  ·rw[if_pos hij]at hR hQ
   split at hR
   ·split at hQ
    ·injection hR with hR;injection hQ with hQ
     subst hR hQ
     exact⟨hn,hb⟩
    ·cases hQ
   ·cases hR
  ·rw[if_neg hij]at hR hQ
   exact h.nd j R' Q' hR hQ
theorem RS.wP {S:DT}{T:Tp}{n:Int}(h:RS S T)(ho:T.ok n)(d:yg)(hp: ∀(Q:Rp) (x:az),Q ∈ T.R→x ∈ T.way→(Q.P.promise x.fr x.ba x.bn x.ai).1.ok):RS (S.wP d).1 (T.wP d).1∧(S.wP d).2=(T.wP d).2:=by
 have hpl:S.place d.a=T.place d.a:=by unfold DT.place Tp.place;rw[h.way]
 have hat:=h.at d.a
 unfold DT.wP Tp.wP
 rw[hpl,h.way]
 by_cases e0:d.kind=0
 ·rw[if_pos e0,if_pos e0]
  by_cases hz:T.way=[]
  ·rw[if_pos hz,if_pos hz];exact⟨h,rfl⟩
  ·rw[if_neg hz,if_neg hz]
   unfold Tp.GR
   cases hx:T.way[T.place d.a]? with
   |none=>exact⟨h,rfl⟩
   |some x=>
    simp only
    cases hQ:T.R[x.to.toNat]? with
    |none=>
     have:S.R[x.to.toNat]? =none:=List.getElem?_eq_none_iff.2 (by rw[h.len];exact List.getElem?_eq_none_iff.1 hQ)
     rw[this];exact⟨h,rfl⟩
    |some Q=>
     have hl:=(List.getElem?_eq_some_iff.1 hQ).1
     have hR:S.R[x.to.toNat]? =some (S.R[x.to.toNat]'(by rw[h.len];exact hl)):=List.getElem?_eq_getElem _
     obtain⟨R,hRR⟩: ∃R,R=S.R[x.to.toNat]'(by rw[h.len];exact hl):=⟨_,rfl⟩
     rw[←hRR]at hR
     obtain⟨q1,q2⟩:=h.nd _ R Q hR hQ
     obtain⟨o1,o2,o3⟩:=ho.node _ Q hQ
     have hq:=eB ho.q
     obtain⟨t1,t2⟩:=q1.take (by have:=o1.2.1;omega) x (hp Q x (List.mem_of_getElem? hQ) (List.mem_of_getElem? hx))
     rw[hR]
     simp only
     have hd:RS ⟨S.R,T.way.eraseIdx (T.place d.a)⟩ (T.drop (T.place d.a)):=⟨rfl,h.len,h.nd⟩
     have:=hd.say (i:=x.to.toNat) (l:=(Q.take x).2) t1 (by rw[Vf];exact q2)
     rw[←t2]at this
     have e1:((R.take x).1,(R.take x).2)=R.take x:=rfl
     have e2:((Q.take x).1,(R.take x).2)=Q.take x:=by rw[t2]
     rw[e1,e2]at this
     exact⟨this,trivial⟩
 rw[if_neg e0,if_neg e0]
 by_cases e1:d.kind=1
 ·rw[if_pos e1,if_pos e1]
  by_cases hz:T.way=[]
  ·rw[if_pos hz,if_pos hz];exact⟨h,rfl⟩
  ·rw[if_neg hz,if_neg hz];exact⟨⟨rfl,h.len,h.nd⟩,rfl⟩
 rw[if_neg e1,if_neg e1]
 by_cases e2:d.kind=2
 ·rw[if_pos e2,if_pos e2]
  have hw:=ho.way
  by_cases hz:T.way=[]∨T.way.length=1024
  ·rw[if_pos hz,if_pos (by rcases hz with z|z;exact .inl z;exact .inr (by omega))];exact⟨h,rfl⟩
  ·rw[if_neg hz,if_neg (by intro z;exact hz (by rcases z with z|z;exact .inl z;exact .inr (by omega)))]
   cases hx:T.way[T.place d.a]? with
   |none=>exact⟨h,rfl⟩
   |some x=>exact⟨⟨rfl,h.len,h.nd⟩,rfl⟩
 rw[if_neg e2,if_neg e2]
 by_cases e3:d.kind=3
 ·rw[if_pos e3,if_pos e3]
  rcases hat with⟨z1,z2⟩|⟨R,Q,z1,z2,z3,z4,q1,q2⟩
  ·rw[z1,z2];exact⟨h,rfl⟩
  ·rw[z1,z2]
   obtain⟨t1,t2⟩:=q1.lead
   have:=h.say (i:=d.a.toNat) (l:=R.lead.2) t1 (by rw[Ve];exact q2)
   have e2':(Q.lead.1,R.lead.2)=Q.lead:=by rw[t2]
   rw[e2']at this
   exact⟨this,rfl⟩
 rw[if_neg e3,if_neg e3]
 by_cases e4:d.kind=4
 ·rw[if_pos e4,if_pos e4]
  rcases hat with⟨z1,z2⟩|⟨R,Q,z1,z2,z3,z4,q1,q2⟩
  ·rw[z1,z2];exact⟨h,rfl⟩
  ·rw[z1,z2]
   obtain⟨t1,t2⟩:=q1.ax d.text
   simp only
   rw[t2]
   by_cases hz:(Q.ax d.text).2.2=0
   ·rw[if_pos hz,if_pos hz]
    exact⟨h.say t1 (by rw[Pk];exact q2),rfl⟩
   ·rw[if_neg hz,if_neg hz];exact⟨h,rfl⟩
 rw[if_neg e4,if_neg e4]
 by_cases e5:d.kind=5
 ·rw[if_pos e5,if_pos e5]
  rcases hat with⟨z1,z2⟩|⟨R,Q,z1,z2,z3,z4,q1,q2⟩
  ·rw[z1,z2];exact⟨h,rfl⟩
  ·rw[z1,z2]
   rcases h.at d.b with⟨y1,y2⟩|⟨R2,Q2,y1,y2,-⟩
   ·simp only[y1,y2,if_true];exact⟨h,trivial⟩
   ·simp only[y1,y2]
    rw[if_neg (by simp)]
    have:=h.say (i:=d.a.toNat) (l:=R.ask d.b) q1 q2
    rw[q1.ask d.b]at this ⊢
    exact⟨this,rfl⟩
 rw[if_neg e5,if_neg e5]
 by_cases e6:d.kind=6
 ·rw[if_pos e6,if_pos e6]
  rcases hat with⟨z1,z2⟩|⟨R,Q,z1,z2,z3,z4,q1,q2⟩
  ·rw[z1,z2];exact⟨h,rfl⟩
  ·rw[z1,z2]
   exact⟨h.say (q1.gM q2) q2,rfl⟩
 ·rw[if_neg e6,if_neg e6];exact⟨h,rfl⟩
structure Small (k:Nat)(R:DR):Prop where
 pl:R.P.L.length≤1024*k
 tl:R.L.told.length≤1024*k
 vl:R.L.ai.length≤k
 sl: ∀v ∈ R.P.L,v.slot<1024
theorem qaW {R:DR}{Q:Rp}{k:Nat}(h:RN R Q)(ho:Q.ok)(hb:Q.A.base=0)(hs:Small k R)(hk:k≤700)(so:Sorted Q.A.L):R.fit:=by
 obtain⟨⟨p1,p2,p3,p4,p5,p6,_,_⟩,o2,o3,o4,a1,a2,a3,a4⟩:=ho
 have hq:=eB p1
 have hal:=DJ so (lo:=0) (fun v hv=>by have:=a4 v hv;omega) (by omega)
 refine⟨by rw[h.n];omega,by rw[h.P.n,h.n,o2],by rw[h.L.n,h.n,o4],by rw[h.P.fr];omega,by rw[h.P.next];omega,hs.sl,by rw[h.L.pb];omega,by rw[h.A];omega,by rw[h.A];exact so,?_,?_,?_⟩
 ·have:=hs.pl;omega
 ·have:=hs.tl;omega
 ·have:=hs.vl;omega
theorem Small.mono {k m:Nat}{R:DR}(h:Small k R)(hm:k≤m):Small m R:=⟨by have:=h.pl;omega,by have:=h.tl;omega,by have:=h.vl;omega,h.sl⟩
theorem Small.new (n me:Int):Small 0 (DR.new n me):=⟨by simp[DR.new,DP.new],by simp[DR.new],by simp[DR.new],fun v hv=>by cases hv⟩
theorem Small.gM {k:Nat}{R:DR}(h:Small k R):Small k R.gM:=⟨by simp[DR.gM,DP.new],by simp[DR.gM],by simp[DR.gM],fun v hv=>by cases hv⟩
theorem Small.SX {k:Nat}{R:DR}(h:Small k R)(A:Acc):Small k {R with A:=A}:=⟨h.pl,h.tl,h.vl,h.sl⟩
theorem Small.Q7 {k:Nat}{R:DR}(h:Small k R){P:DP}(e:P.L=R.P.L):Small k {R with P:=P}:=⟨by show P.L.length≤_;rw[e];exact h.pl,h.tl,h.vl,by show ∀v ∈ P.L,_;rw[e];exact h.sl⟩
theorem Small.lead {k:Nat}{R:DR}(h:Small k R):Small k R.lead.1:=by
 unfold DR.lead
 split
 ·exact h
 ·rename_i hz
  have e:=Xm R.P R.A.pa R.A.pn (kV R.L) (by simpa using hz)
  exact⟨by show(R.P.lead _ _ _).1.L.length≤_;rw[e];simp,h.tl,h.vl,by show ∀v ∈ (R.P.lead _ _ _).1.L,_;rw[e];simp⟩
theorem Small.ax {k:Nat}{R:DR}(h:Small k R)(s:ByteArray):Small k (R.ax s).1:=by
 unfold DR.ax
 split
 ·exact h
 ·exact h.Q7 (Hz R.P s)
theorem Xt (l:DL)(fr:Int)(v:ay):(l.mG fr v).ai.length≤l.ai.length+1:=by
 have:=List.length_filter_le (fun x=> !fZ fr v.slot x) l.ai
 show((l.ai.filter _)++[(fr,v)]).length≤_
 rw[List.length_append];simp;omega
theorem Xu (l:DL)(fr:Int)(v:ay):(l.hear fr v).1.ai.length≤l.ai.length+1∧(l.hear fr v).1.told.length≤l.told.length+1:=by
 have hv:=Xt l fr v
 unfold DL.hear
 split
 ·exact⟨by simp,by simp⟩
 split
 ·exact⟨by simp,by simp⟩
 split
 ·exact⟨hv,by show l.told.length≤_;omega⟩
 ·obtain⟨_,_,h3,h4⟩:=AP (l.mG fr v) v.slot v.val
  exact⟨by rw[h3];exact hv,h4⟩
theorem Small.take {k:Nat}{R:DR}(h:Small k R)(x:az)(hx:x.ai.length≤1024):Small (k+1) (R.take x).1:=by
 have hm:=h.mono (Nat.le_succ k)
 unfold DR.take
 split
 ·exact hm
 split
 ·unfold DR.bQ
  have hs:Small (k+1) (R.step x.ba x.bn):=hm.Q7 (Hy R.P x.ba x.bn)
  split
  ·exact hs
  split
  ·exact hs.SX _
  ·exact hs.SX _
 split
 ·obtain⟨_,_,p3,p4⟩:=FR R.P x.fr x.ba x.bn x.ai
  have hp:Small (k+1) {R with P:=(R.P.promise x.fr x.ba x.bn x.ai).1}:=⟨by show(R.P.promise x.fr x.ba x.bn x.ai).1.L.length≤_;have:=h.pl;omega,hm.tl,hm.vl,p4 h.sl⟩
  unfold DR.promise
  split
  ·exact hp
  ·exact hp.Q7 (P:=(R.P.promise x.fr x.ba x.bn x.ai).1.fill.1) (TR _)
 split
 ·exact hm
 split
 ·obtain⟨_,_,q3,q4⟩:=Eo x.ai R.L
  exact⟨hm.pl,by show(mE R.L x.ai).told.length≤_;have:=h.tl;omega,by show(mE R.L x.ai).ai.length≤_;rw[q3];exact hm.vl,hm.sl⟩
 split
 ·exact(show Small (k+1) (R.step (gF x.ai).a (gF x.ai).n)from hm.Q7 (Hy R.P _ _)).SX _
 split
 ·obtain⟨q1,q2⟩:=Xu R.L x.fr (gF x.ai)
  exact⟨hm.pl,by show(R.L.hear x.fr (gF x.ai)).1.told.length≤_;have:=h.tl;omega,by show(R.L.hear x.fr (gF x.ai)).1.ai.length≤_;have:=h.vl;omega,hm.sl⟩
 ·exact hm
def FV (k:Nat)(S:DT):Prop:=∀R ∈ S.R,Small k R
theorem FV.mono {k m:Nat}{S:DT}(h:FV k S)(hm:k≤m):FV m S:=fun R hR=>(h R hR).mono hm
theorem FV.say {k:Nat}{S:DT}(h:FV k S){i:Nat}{r:DR×List az}(hr:Small k r.1):FV k (S.say i r):=by
 intro R hR
 rcases List.mem_or_eq_of_mem_set hR with hR|hR
 ·exact h R hR
 ·rw[hR];exact hr
theorem DT.at_mem {S:DT}{i:Int}{R:DR}(h:S.at i=some R):R ∈ S.R:=by
 unfold DT.at at h
 split at h
 ·exact List.mem_of_getElem? h
 ·cases h
theorem FV.wP {k:Nat}{S:DT}(h:FV k S)(hx: ∀x ∈ S.way,x.ai.length≤1024)(d:yg):FV (k+1) (S.wP d).1:=by
 have hm:=h.mono (Nat.le_succ k)
 unfold DT.wP
 split
 ·split
  ·exact hm
  ·split
   ·exact hm
   ·rename_i x hxx
    split
    ·exact hm
    ·rename_i R hR
     exact FV.say (S:=⟨S.R,S.way.eraseIdx (S.place d.a)⟩) hm ((h R (List.mem_of_getElem? hR)).take x (hx x (List.mem_of_getElem? hxx)))
 split
 ·split
  ·exact hm
  ·exact hm
 split
 ·split
  ·exact hm
  ·split
   ·exact hm
   ·exact hm
 split
 ·split
  ·exact hm
  ·rename_i R hR
   exact hm.say ((hm R (DT.at_mem hR)).lead)
 split
 ·split
  ·exact hm
  ·rename_i R hR
   split
   ·exact hm.say ((hm R (DT.at_mem hR)).ax d.text)
   ·exact hm
 split
 ·split
  ·exact hm
  ·rename_i R hR
   split
   ·exact hm
   ·exact hm.say (hm R (DT.at_mem hR))
 split
 ·split
  ·exact hm
  ·rename_i R hR
   exact hm.say ((hm R (DT.at_mem hR)).gM)
 ·exact hm
theorem FV.new (n:Int):FV 0 (DT.new n):=by
 intro R hR
 unfold DT.new at hR
 split at hR
 ·cases hR
 ·obtain⟨j,_,rfl⟩:=List.mem_map.1 hR
  exact Small.new n j
theorem RN.new (n me:Int):RN (DR.new n me) (Rp.new n me):=⟨rfl,rfl,rfl,RP.new n me,⟨rfl,rfl,rfl,fun s=>rfl,fun s fr _=>rfl,.nil,fun x hx=>by cases hx⟩⟩
theorem RS.new {n:Int}(hq:aO n≠0):RS (DT.new n) (Tp.new n):=by
 unfold DT.new Tp.new
 rw[if_neg hq]
 refine⟨rfl,by simp,fun i R Q hR hQ=> ?_⟩
 simp only[List.getElem?_map]at hR hQ
 obtain⟨j,hj,rfl⟩:=Option.map_eq_some_iff.1 hR
 obtain⟨j',hj',rfl⟩:=Option.map_eq_some_iff.1 hQ
 rw[hj]at hj'
 injection hj' with e
 subst e
 exact⟨RN.new n j,rfl⟩
section
attribute [local simp] J0 J1 J2 J3 J4 J5 J6 J7 J8 J9 Ja Jb Jc Jd Je Jf Jg Jh Ji Jj Jk Jl Jm Jn Jo Jp Jq Jr Js Jt Ju Jv Jw Jx Jy Jz JA JB JC JD JE JF JG JH JI JJ JK JL JM JN JO JP JQ JR JS aQ bZ.kind JT JU JV JW JX JY JZ Y0 Y1 Y2 Y3 Y4 Y5 Y6 Y7 Y8 Y9 Ya Yb Yc Yd Ye Yf Yg Yh Yi Yj Yk Yl Ym Yn Yo Yp Yq jq Yr Ys Yt Yu Yv Yw Yx Yy dZ bA bE Yz YA YB YC YD YE eO YF YG YH YI YJ YK YL YM YN YO YP YQ YR YS YT YU nP bK jR nG bu putAt aa.ah aa.aP aa.aK YV YW YX YY YZ B0 B1 B2 B3 B4 B5 B6 B7 B8 B9 Ba Bb Bc Bd Be Bf Bg Bh Bi Bj Bk Bl Bm Bn Bo Bp
section
theorem Rf (size:Nat)(new:List Value)(hn:new.length=size): ∀(rows:List (List Value)) (i:Nat),(∀r ∈ rows,r.length=size)→i<rows.length→List.take (i*size) rows.flatten++(new++List.drop (i*size+size) rows.flatten)=(rows.set i new).flatten
 |[],i,_,hi=>by simp at hi
 |r::rows,0,hr,_=>by
  have h:=hr r (by simp)
  simp only[Nat.zero_mul,List.take_zero,List.nil_append,Nat.zero_add,List.set_cons_zero,List.flatten_cons]
  rw[←h,List.drop_left']
  rfl
 |r::rows,i+1,hr,hi=>by
  have h:=hr r (by simp)
  have ih:=Rf size new hn rows i (fun x hx=>hr x (by simp[hx])) (by simpa using hi)
  simp only[List.set_cons_succ,List.flatten_cons]
  have e1:(i+1)*size=r.length+i*size:=by rw[h,Nat.succ_mul];omega
  rw[e1,List.take_append,List.take_of_length_le (by omega),Nat.add_sub_cancel_left,Nat.add_assoc,List.drop_append,List.drop_eq_nil_of_le (by omega),Nat.add_sub_cancel_left,List.nil_append,List.append_assoc,ih]
def iw (D:Nat→Prop)(H:aa)(S:DT)(vl vw:Value):Prop:=
 ∃us:List RU,us.length=S.R.length∧eP D H 27 vl (List.zipWith dm S.R us)∧(∀(i:Nat) (R:DR) (U:RU),S.R[i]? =some R→us[i]? =some U→qG D H R U)∧nK D H vw S.way
theorem iw.le {D:Nat→Prop}{H H':aa}{S:DT}{vl vw:Value}(h:iw D H S vl vw)(k:H.le H'):iw D H' S vl vw:=by
 obtain⟨us,h1,h2,h3,h4⟩:=h
 exact⟨us,h1,h2.le k,fun i R U a b=>(h3 i R U a b).le k,h4.le k⟩
theorem iw.weak {D D':Nat→Prop}{H:aa}{S:DT}{vl vw:Value}(h:iw D H S vl vw)(hd: ∀b,D b→D' b):iw D' H S vl vw:=by
 obtain⟨us,h1,h2,h3,h4⟩:=h
 exact⟨us,h1,h2.weak hd,fun i R U a b=>(h3 i R U a b).weak hd,h4.weak hd⟩
theorem iw.fr {D B:Nat→Prop}{H H':aa}{S:DT}{vl vw:Value}(h:iw D H S vl vw)(k:Fr B H H')(hd: ∀b,D b→¬ B b):iw D H' S vl vw:=by
 obtain⟨us,h1,h2,h3,h4⟩:=h
 exact⟨us,h1,h2.fr k hd,fun i R U a b=>(h3 i R U a b).fr k hd,h4.fr k hd⟩
theorem FW {L:List DR}{us:List RU}(h:us.length=L.length):(List.zipWith dm L us).length=L.length:=by rw[List.length_zipWith,h,Nat.min_self]
theorem Xv (L:List DR)(us:List RU): ∀r ∈ List.zipWith dm L us,r.length=27:=by
 intro r hr
 obtain⟨j,hj⟩:=List.getElem?_of_mem hr
 rw[List.getElem?_zipWith]at hj
 split at hj
 ·injection hj with hj;subst hj;exact cK
 ·cases hj
theorem Xw (L:List DR)(us:List RU):(List.zipWith dm L us).flatten.all cO=true:=by
 rw[List.all_eq_true]
 intro y hy
 obtain⟨r,hr,hy⟩:=List.mem_flatten.1 hy
 obtain⟨j,hj⟩:=List.getElem?_of_mem hr
 rw[List.getElem?_zipWith]at hj
 split at hj
 ·injection hj with hj;subst hj;exact List.all_eq_true.1 iY y hy
 ·cases hj
theorem nK.ones {D:Nat→Prop}{H:aa}{l:List az}{us:List Value}(h1:us.length=l.length)(h3: ∀(i:Nat) (x:az) (u:Value),l[i]? =some x→us[i]? =some u→eP D H 4 u (x.ai.map aG)): ∀u ∈ us,cO u=true:=by
 intro w hw
 obtain⟨j,hj⟩:=List.getElem?_of_mem hw
 have hjl:=(List.getElem?_eq_some_iff.1 hj).1
 exact(h3 j l[j] w (List.getElem?_eq_getElem (by omega)) hj).2.one
theorem ZF (L:List DR)(us:List RU)(h:us.length=L.length)(i:Nat)(R:DR)(U:RU)(hi:i<L.length):List.zipWith dm (L.set i R) (us.set i U)=(List.zipWith dm L us).set i (dm R U):=by
 refine List.ext_getElem? fun j=> ?_
 rw[List.getElem?_zipWith,List.getElem?_set,List.getElem?_set,List.getElem?_set,List.getElem?_zipWith,FW h]
 by_cases hj:i=j
 ·subst hj
  simp[h,hi]
 ·simp[hj]
section
variable (c:Ctx) (h22:mH c) {H:aa} {K:Value→aa→Prop} {D:Nat→Prop}
include h22 in
theorem FX {S:DT}{vl vw w:Value}{R:DR}{U:RU}{l:List az}{i:Nat}(h:iw D H S vl vw)(hi:i<S.R.length)(hR:qG D H R U)(hN:nK D H w l)(h7:S.R.length≤1000)(hw:S.way.length≤1024)(hl:l.length≤100000)
 (hK: ∀zY uq H',H.le H'→iw (Nw D H H') H' (S.say i (R,l)) zY uq→K (.agg #[zY,uq]) H'):
 c.C (c.F FM) [.agg #[vl,vw],.int .i64 i,.agg (dm R U).toArray,w] H K:=by
 refine c.enter h22.Ke rfl ?_
 obtain⟨us,h1,h2,h3,ws,w1,w2,w3⟩:=h
 obtain⟨ls,l1,l2,l3⟩:=hN
 have zl:=FW h1
 have zw:=eX w1
 have zz:=eX l1
 obtain⟨la,lc,rfl⟩: ∃a cp,vl = .slice a S.R.length cp:=by obtain⟨a,cp,e⟩:=h2.2.len;rw[zl]at e;exact⟨_,_,e⟩
 obtain⟨wa,wc,rfl⟩: ∃a cp,vw = .slice a S.way.length cp:=by obtain⟨a,cp,e⟩:=w2.2.len;rw[zw]at e;exact⟨_,_,e⟩
 obtain⟨na,nc,rfl⟩: ∃a cp,w = .slice a l.length cp:=by obtain⟨a,cp,e⟩:=l2.2.len;rw[zz]at e;exact⟨_,_,e⟩
 obtain⟨H0,hH0⟩: ∃X:aa,X=((H.alloc (.cells [.slice la S.R.length lc,.slice wa S.way.length wc] false)).alloc (.cells (dm R U) false)).alloc (.cells [.slice none 0 0,.slice none 0 0] false):=⟨_,rfl⟩
 have k0:H.le H0:=by rw[hH0];exact((H.aj _).alloc _).alloc _
 have n0:H0.next=H.next+3:=by rw[hH0];rfl
 have g0:H0.get H.next=some (.cells [.slice la S.R.length lc,.slice wa S.way.length wc] false):=by rw[hH0];simp only[YV,YW,YX,YY];repeat (first|rw[if_pos trivial]|rw[if_pos (by omega)]|rw[if_neg (by omega)])
 have g1:H0.get (H.next+1)=some (.cells (dm R U) false):=by rw[hH0];simp only[YV,YW,YX,YY];repeat (first|rw[if_pos trivial]|rw[if_pos (by omega)]|rw[if_neg (by omega)])
 have g2:H0.get (H.next+2)=some (.cells [.slice none 0 0,.slice none 0 0] false):=by rw[hH0];simp only[YV,YW,YX,YY];repeat (first|rw[if_pos trivial]|rw[if_pos (by omega)]|rw[if_neg (by omega)])
 obtain⟨rows,hrows⟩: ∃rows,rows=List.zipWith dm S.R us:=⟨_,rfl⟩
 rw[←hrows]at zl h2
 have ZG: ∀r ∈ rows,r.length=27:=by rw[hrows];exact Xv _ _
 have uf:=(h2.le k0).2.first (by omega)
 rw[zl]at uf
 obtain⟨v2,H1,ap1,gr1,q1,-⟩:=(Gr.nil H0 H0.next 27).many (bytes:=216) (aa.le_refl _) (Nat.le_refl _) (by omega) (by omega) (new:=rows) (by rw[zl];simp;omega) (by rw[zl];simp;omega) ZG (by rw[hrows];exact Xw _ _)
 rw[zl]at ap1
 rw[List.nil_append]at gr1
 obtain⟨ok,ga1,gb1⟩:=gr1
 cases ok with
 |none=>exact absurd ga1.1 (by intro hz;rw[hz]at zl;simp at zl;omega)
 |some kb=>
  obtain⟨p1,-,p3,p4⟩:=ga1
  have p2:=gb1 kb rfl
  rw[zl]at p3
  subst p3
  have k1:H0.le H1:=q1.le (Nat.le_refl _)
  have n1:=k1.next
  have y1:=(k1.get H.next (by omega)).trans g0
  obtain⟨H2,hH2⟩: ∃X:aa,X=H1.set H.next (.cells [.slice (some ⟨kb,0,none⟩) S.R.length (dY+27),.slice wa S.way.length wc] false):=⟨_,rfl⟩
  have n2:H2.next=H1.next:=by rw[hH2];rfl
  have o0:H2.get H.next=some (.cells [.slice (some ⟨kb,0,none⟩) S.R.length (dY+27),.slice wa S.way.length wc] false):=by rw[hH2];simp only[YV,YW,YX,YY];repeat (first|rw[if_pos trivial]|rw[if_pos (by omega)]|rw[if_neg (by omega)])
  have o1:H2.get (H.next+1)=some (.cells (dm R U) false):=by rw[hH2,YW,if_neg (by omega)];exact(k1.get _ (by omega)).trans g1
  have o2:H2.get (H.next+2)=some (.cells [.slice none 0 0,.slice none 0 0] false):=by rw[hH2,YW,if_neg (by omega)];exact(k1.get _ (by omega)).trans g2
  have ok:H2.get kb=some (.cells rows.flatten false):=by rw[hH2,YW,if_neg (by omega)];exact p4
  have hfl:=dR rows 27 ZG
  rw[zl]at hfl
  have hput:=Rf 27 (dm R U) cK rows i ZG (by omega)
  obtain⟨rows',Pm⟩: ∃rows',rows'=rows.set i (dm R U):=⟨_,rfl⟩
  rw[←Pm]at hput
  obtain⟨H3,hH3⟩: ∃X:aa,X=H2.set kb (.cells rows'.flatten false):=⟨_,rfl⟩
  have n3:H3.next=H2.next:=by rw[hH3];rfl
  have k3:H.le H3:=by rw[hH3,hH2];exact(((k0.trans k1).set (Nat.le_refl _) _).set (by omega) _)
  have e0:H3.get H.next=some (.cells [.slice (some ⟨kb,0,none⟩) S.R.length (dY+27),.slice wa S.way.length wc] false):=by rw[hH3,YW,if_neg (by omega)];exact o0
  have e2:H3.get (H.next+2)=some (.cells [.slice none 0 0,.slice none 0 0] false):=by rw[hH3,YW,if_neg (by omega)];exact o2
  have ek:H3.get kb=some (.cells rows'.flatten false):=by rw[hH3];simp only[YV,YW,YX,YY];repeat (first|rw[if_pos trivial]|rw[if_pos (by omega)]|rw[if_neg (by omega)])
  have wf:=(w2.le k3).2.first (by omega)
  rw[zw]at wf
  obtain⟨v4,H4,ap4,SQ,q4,-⟩:=(Gr.nil H3 H3.next 7).many (bytes:=72) (aa.le_refl _) (Nat.le_refl _) (by omega) (by omega) (new:=List.zipWith aC S.way ws) (by rw[zw];simp;omega) (by rw[zw];simp;omega) (gI _ _) (um (nK.ones w1 w3))
  rw[zw]at ap4
  rw[List.nil_append]at SQ
  have k4:H3.le H4:=q4.le (Nat.le_refl _)
  have f0:=(k4.get H.next (by omega)).trans e0
  have n4:=k4.next
  obtain⟨xa,xc,hx4⟩: ∃xa xc,v4 = .slice xa S.way.length xc:=by obtain⟨a,cp,e⟩:=SQ.grow.len;rw[zw]at e;exact⟨_,_,e⟩
  subst hx4
  have hi':(i:Int)<(S.R.length:Int):=by omega
  have hi0:0≤(i:Int):=by omega
  have qct:i*27+27≤S.R.length*27:=by omega
  simp -implicitDefEqProofs [oU,←hH0,g0,bG,uf,ap1,y1,←hH2,o0,o1,cK,iq,hi,hi',hi0,ok,hfl,qct,iY,hput,←hH3,e0,wf,ap4,f0]
  obtain⟨M,hM⟩: ∃M:Nat,M=min l.length (1024-S.way.length):=⟨_,rfl⟩
  have hM':M≤l.length∧S.way.length+M≤1024:=by omega
  obtain⟨rw4,qbL⟩: ∃r,r=List.zipWith aC S.way ws:=⟨_,rfl⟩
  obtain⟨rl,hrl⟩: ∃r,r=List.zipWith aC l ls:=⟨_,rfl⟩
  rw[←qbL]at SQ zw
  rw[←hrl]at zz l2
  have u34:aa.upd [H.next] H3 (H4.set H.next (.cells [.slice (some ⟨kb,0,none⟩) S.R.length (dY+27),.slice xa S.way.length xc] false)):=((aa.iE _ _).vH (q4.weak (Nat.le_refl _)) (Nat.le_refl _)).set (.inr (by simp)) _
  have hne0: ∀(Q:aa),aa.upd [H.next] H3 Q→H.le Q∧H3.next≤Q.next:=fun Q u=>⟨k3.ZY u (fun p hp=>by simp at hp;omega),u.next⟩
  refine aS c.mono (fun k T H'=> ∃(j:Nat) (xa:Option Addr) (xc:Nat),j≤M∧k=M-j∧T 3 = .slice na l.length nc∧T 4 = .pointer (some ⟨H.next,0,none⟩)∧T 8 = .pointer (some ⟨H.next+2,0,none⟩)∧T 9 = .int .i64 j∧aa.upd [H.next] H3 H' ∧
   H'.get H.next=some (.cells [.slice (some ⟨kb,0,none⟩) S.R.length (dY+27),.slice xa (S.way.length+j) xc] false)∧Gr H' H3.next 7 (.slice xa (S.way.length+j) xc) (rw4++rl.take j)) M ?_ ?_
  ·refine⟨0,xa,xc,by omega,rfl,?_⟩
   simp -implicitDefEqProofs []
   exact⟨u34,SQ.set (by omega) _⟩
  ·rintro k T H5 ⟨j,xa,xc,hj,rfl,t3,t4,t8,t9,u5,b5,MC⟩
   obtain⟨k5,n5⟩:=hne0 H5 u5
   by_cases hjM:j<M
   ·have hjl:j<l.length:=by omega
    have eD:(j:Int)<(l.length:Int):=by omega
    have qcu:(S.way.length:Int)+(j:Int)<1024:=by omega
    have wj:IntKind.i64.wrap ((j:Int)+1)=(j:Int)+1:=wrap64 (by omega) (by omega)
    obtain⟨x,hx⟩: ∃x,l[j]? =some x:=⟨l[j],List.getElem?_eq_getElem hjl⟩
    obtain⟨u,hu⟩: ∃u,ls[j]? =some u:=⟨ls[j]'(by omega),List.getElem?_eq_getElem (by omega)⟩
    have hsu:=l3 j x u hx hu
    obtain⟨y,rfl⟩:=hsu.cut
    have hrj:rl[j]? =some (aC x (.slice y.1 x.ai.length y.2)):=by rw[hrl,List.getElem?_zipWith,hx,hu]
    obtain⟨b,o,cc,cs,ro,ea,hbl,hget,hrlen,hrow,hbd⟩:=(l2.1.sl.le k5).at hrj
    rw[zz]at ea
    simp only[Value.slice.injEq]at ea
    obtain⟨rfl,-,rfl⟩:=ea
    simp only[aC]at hrow
    have htk:rl.take (j+1)=rl.take j++[aC x (.slice y.1 x.ai.length y.2)]:=by rw[List.take_add_one,hrj];rfl
    obtain⟨v6,H6,ap6,XK,q6,-⟩:=MC.one (H1:=H5.alloc (.cells (aC x (.slice y.1 x.ai.length y.2)) false)) (bytes:=72) (r:=aC x (.slice y.1 x.ai.length y.2)) (H5.aj _) (by rw[YX];omega) (by omega) (by omega) (by rw[List.length_append,List.length_take,zw];omega) (by rw[List.length_append,List.length_take,zw];omega) rfl rfl
    have f6:=nJ H5 7 (aC x (.slice y.1 x.ai.length y.2)) rfl (by omega)
    rw[List.append_assoc,←htk]at XK
    obtain⟨xa',xc',hx6⟩: ∃xa xc,v6 = .slice xa (S.way.length+(j+1)) xc:=by
     obtain⟨a,cp,e⟩:=XK.grow.len
     rw[List.length_append,List.length_take,zw,zz,Nat.min_eq_left (by omega)]at e
     exact⟨_,_,e⟩
    subst hx6
    simp only[aC]at ap6 f6
    have u6:aa.upd [H.next] H3 H6:=(u5.vH ((H5.aj (.cells [.int .i64 x.kind,.int .i64 x.fr,.int .i64 x.to,.int .i64 x.slot,.int .i64 x.ba,.int .i64 x.bn,.slice y.1 x.ai.length y.2] false)).keep (B:=H3.next) n5) (Nat.le_refl _)).vH q6 (Nat.le_refl _)
    have b6:H6.get H.next=some (.cells [.slice (some ⟨kb,0,none⟩) S.R.length (dY+27),.slice xa (S.way.length+j) xc] false):=by
     rw[q6.get H.next (by omega),YV,if_neg (by omega)];exact b5
    simp -implicitDefEqProofs [t3,t4,t8,t9,hjl,eD,b5,qcu,hget,hrow,hbd,bG,f6,ap6,b6,wj]
    exact⟨M-(j+1),by omega,j+1,by omega,rfl,by simp,u6.set (.inr (by simp)) _,xa',xc',⟨rfl,rfl,rfl⟩,XK.set (by omega) _⟩
   ·have uA:j=M:=by omega
    have hend: ∀(X:Prop),(¬ (j:Int)<(l.length:Int)→X)→((j:Int)<(l.length:Int)→¬ (S.way.length:Int)+(j:Int)<1024→X)→X:=fun X a b=>by
     by_cases hz:(j:Int)<(l.length:Int)
     ·exact b hz (by omega)
     ·exact a hz
    have b2:H5.get (H.next+2)=some (.cells [.slice none 0 0,.slice none 0 0] false):=(u5.get _ (by omega) (by simp)).trans e2
    have bk:H5.get kb=some (.cells rows'.flatten false):=(u5.get _ (by omega) (by simp;omega)).trans ek
    have last: ∀o,K (.agg #[.slice (some ⟨kb,0,none⟩) S.R.length (dY+27),.slice xa (S.way.length+j) xc]) (H5.set (H.next+2) o):=by
     intro o
     refine hK _ _ _ (k5.set (by omega) _) ⟨us.set i U,?_,?_,?_,?_⟩
     ·rw[List.length_set];show us.length=(S.R.set i R).length;rw[List.length_set,h1]
     ·show eP _ _ 27 _ (List.zipWith dm (S.R.set i R) (us.set i U))
      rw[ZF S.R us h1 i R U hi,←hrows,←Pm]
      have hlr:rows'.length=S.R.length:=by rw[Pm,List.length_set,zl]
      have ga:GrowAt (some kb) (H5.set (H.next+2) o) 27 (.slice (some ⟨kb,0,none⟩) S.R.length (dY+27)) rows':=by
       refine⟨by rw[YY];omega,fun r hr=> ?_,by rw[hlr],by rw[YW,if_neg (by omega)];exact bk⟩
       rw[Pm]at hr
       rcases List.mem_or_eq_of_mem_set hr with hr|hr
       ·exact ZG r hr
       ·rw[hr];exact cK
      exact(ga.grow (N:=H.next) (fun b e=>by injection e with e;omega)).QD.weak fun b hb=>.inr hb
     ·intro j R' U' ha hb
      have ha:(S.R.set i R)[j]? =some R':=ha
      rw[List.getElem?_set]at ha hb
      have kk:H.le (H5.set (H.next+2) o):=k5.set (by omega) _
      by_cases hij:i=j
      ·subst hij
       rw[if_pos rfl,if_pos (by omega)]at ha hb
       injection ha with ha
       injection hb with hb
       subst ha hb
       exact(hR.le kk).weak fun b hb=>.inl hb
      ·rw[if_neg hij]at ha hb
       exact((h3 j R' U' ha hb).le kk).weak fun b hb=>.inl hb
     ·have kk:H.le (H5.set (H.next+2) o):=k5.set (by omega) _
      have hw':(S.say i (R,l)).way=S.way++l.take M:=by
       show DX S.way l=_
       unfold DX
       congr 1
       by_cases hz:l.length≤1024-S.way.length
       ·rw[List.take_of_length_le hz,List.take_of_length_le (by omega)]
       ·have:M=1024-S.way.length:=by omega
        rw[this]
      rw[hw']
      have hz:List.zipWith aC (S.way++l.take M) (ws++ls.take M)=rw4++rl.take j:=by
       rw[List.zipWith_append w1.symm,←qbL,uA,hrl,List.take_zipWith]
      refine⟨ws++ls.take M,by simp[w1,l1],?_,fun q x u ha hb=> ?_⟩
      ·rw[hz]
       exact(MC.set (i:=H.next+2) (by omega) o).grow.QD.weak fun b hb=>.inr ⟨by omega,hb.2⟩
      ·by_cases hq:q<S.way.length
       ·rw[List.getElem?_append_left hq]at ha
        rw[List.getElem?_append_left (by omega)]at hb
        exact((w3 q x u ha hb).le kk).weak fun b hb=>.inl hb
       ·rw[List.getElem?_append_right (by omega)]at ha
        rw[List.getElem?_append_right (by omega),w1]at hb
        rw[List.getElem?_take]at ha hb
        split at ha
        ·rename_i hqq
         rw[if_pos hqq]at hb
         exact((l3 _ x u ha hb).le kk).weak fun b hb=>.inl hb
        ·simp at ha
    refine hend _ (fun d1=> ?_) (fun d1 d2=> ?_)
    ·simp -implicitDefEqProofs [t3,t4,t8,t9,d1,b5,b2]
     exact last _
    ·simp -implicitDefEqProofs [t3,t4,t8,t9,d1,d2,b5,b2]
     exact last _
end
end
section
theorem iw.at {D:Nat→Prop}{H:aa}{S:DT}{vl vw:Value}(h:iw D H S vl vw){i:Nat}{R:DR}(hi:S.R[i]? =some R):
 ∃U b o cap cs ro,vl = .slice (some ⟨b,o,none⟩) S.R.length cap∧b<H.next∧H.get b=some (.cells cs ro)∧(cs.drop (o+i*27)).take 27=dm R U∧o+i*27+27≤cs.length∧qG D H R U:=by
 obtain⟨us,h1,h2,h3,_⟩:=h
 have hl:i<S.R.length:=(List.getElem?_eq_some_iff.1 hi).1
 obtain⟨U,hU⟩: ∃U,us[i]? =some U:=⟨us[i]'(by omega),List.getElem?_eq_getElem (by omega)⟩
 obtain⟨b,o,cap,cs,ro,e,hb,hg,_,hrow,hbd⟩:=h2.1.sl.at (i:=i) (r:=dm R U) (by rw[List.getElem?_zipWith,hi,hU])
 rw[FW h1]at e
 exact⟨U,b,o,cap,cs,ro,e,hb,hg,hrow,hbd,h3 i R U hi hU⟩
theorem iw.below {D:Nat→Prop}{H:aa}{S:DT}{vl vw:Value}(h:iw D H S vl vw):iw (fun b=>D b∧b<H.next) H S vl vw:=by
 obtain⟨us,h1,h2,h3,h4⟩:=h
 exact⟨us,h1,h2.below,fun i R U a b=>(h3 i R U a b).below,h4.below⟩
theorem iw.cut {D:Nat→Prop}{H:aa}{S:DT}{vl vw:Value}(h:iw D H S vl vw): ∃la lc wa wc,vl = .slice la S.R.length lc∧vw = .slice wa S.way.length wc:=by
 obtain⟨us,h1,h2,h3,h4⟩:=h
 obtain⟨a,cp,e⟩:=h2.2.len
 rw[FW h1]at e
 obtain⟨b,cq,e'⟩:=h4.len
 exact⟨a,cp,b,cq,e,e'⟩
theorem DT.kR {S:DT}{i:Int}{R:DR}(h:S.at i=some R):0≤i∧i<S.R.length∧S.R[i.toNat]? =some R:=by
 unfold DT.at at h
 split at h
 ·have:=(List.getElem?_eq_some_iff.1 h).1
  exact⟨by omega,by omega,h⟩
 ·cases h
theorem DT.uo {S:DT}{i:Int}(h:S.at i=none):i<0∨(S.R.length:Int)≤i:=by
 unfold DT.at at h
 split at h
 ·have:=List.getElem?_eq_none_iff.1 h;omega
 ·omega
theorem iw.fin {D:Nat→Prop}{H H3 H4:aa}{S:DT}{vl vw:Value}{lo p:Nat}(o:fK)(h:iw (Nw (fun b=>(D b∧b<H.next)∨(lo≤b∧b<H3.next)) H3 H4) H4 S vl vw)(hp:H.next≤p∧p<lo)(h3:lo≤H3.next)(h4:H3.next≤H4.next):
 iw (Nw D H (H4.set p o)) (H4.set p o) S vl vw:=by
 refine(h.fr ((Fr.refl (fun b=>b=p) H4).set (.inl rfl) o) (fun b hb hn=> ?_)).weak fun b hb=> ?_
 ·have hn:b=p:=hn
  rcases hb with (hb|hb)|hb <;> omega
 ·rcases hb with (hb|hb)|hb
  ·exact .inl hb.1
  ·exact .inr ⟨by omega,by rw[YY];omega⟩
  ·exact .inr ⟨by omega,by rw[YY];omega⟩
theorem Rh (R:DR)(x:az):(kJ R x).length=R.n.toNat:=by unfold kJ;rw[List.length_map,List.length_range]
theorem Xx (R:DR):R.lead.2.length≤R.n.toNat:=by
 unfold DR.lead
 split
 ·simp
 ·rw[Rh];exact Nat.le_refl _
section
variable (c:Ctx) (mM:dw c) (hQ:bN c) (h16:dS c) (En:eF c) (h19:dU c) (h20:eG c) (h21:fM c) (h22:mH c) {H:aa} {K:Value→aa→Prop} {D:Nat→Prop}
include h22 in
theorem vY {la:Option Addr}{n lc:Nat}{vw:Value}{i:Int}(hK: ∀H',H.le H'→K (.bool (decide (0≤i)&&decide (i<n))) H'):c.C (c.F Ef) [.agg #[.slice la n lc,vw],.int .i64 i] H K:=by
 refine c.enter h22.Ho rfl ?_
 obtain⟨H0,hH0⟩: ∃X:aa,X=H.alloc (.cells [.slice la n lc,vw] false):=⟨_,rfl⟩
 have k0:H.le H0:=by rw[hH0];exact H.aj _
 have g0:H0.get H.next=some (.cells [.slice la n lc,vw] false):=by rw[hH0];simp only[YV,YW,YX,YY];repeat (first|rw[if_pos trivial]|rw[if_pos (by omega)]|rw[if_neg (by omega)])
 by_cases c1:0≤i
 ·by_cases c2:i<n
  ·simp -implicitDefEqProofs [gQ,←hH0,g0,c1,c2]
   rw[decide_eq_true c1,decide_eq_true c2]at hK
   exact hK _ k0
  ·simp -implicitDefEqProofs [gQ,←hH0,g0,c1,c2]
   rw[decide_eq_true c1,decide_eq_false c2]at hK
   exact hK _ k0
 ·simp -implicitDefEqProofs [gQ,←hH0,g0,c1]
  rw[decide_eq_false c1]at hK
  exact hK _ k0
include mM h16 En h19 h20 h21 h22 in
theorem Xy {S:DT}{vl vw:Value}{i:Int}(h:iw D H S vl vw)(hf: ∀R ∈ S.R,R.fit)(h7:S.R.length≤1000)(hw:S.way.length≤1024)
 (h0:S.at i=none→∀H',H.le H'→K (.tuple #[.agg #[vl,vw],.bool false]) H')
 (h1: ∀R,S.at i=some R→∀zY uq H',H.le H'→iw (Nw D H H') H' (S.say i.toNat R.lead) zY uq→K (.tuple #[.agg #[zY,uq],.bool true]) H'):
 c.C (c.F Eh) [.agg #[vl,vw],.int .i64 i] H K:=by
 refine c.enter h22.Hr rfl ?_
 obtain⟨la,lc,wa,wc,rfl,rfl⟩:=h.cut
 obtain⟨H0,hH0⟩: ∃X:aa,X=(H.alloc (.cells [.slice la S.R.length lc,.slice wa S.way.length wc] false)).alloc (.cells [.slice none 0 0,.slice none 0 0] false):=⟨_,rfl⟩
 have k0:H.le H0:=by rw[hH0];exact(H.aj _).alloc _
 have n0:H0.next=H.next+2:=by rw[hH0];rfl
 have g0:H0.get H.next=some (.cells [.slice la S.R.length lc,.slice wa S.way.length wc] false):=by rw[hH0];simp only[YV,YW,YX,YY];repeat (first|rw[if_pos trivial]|rw[if_pos (by omega)]|rw[if_neg (by omega)])
 have g1:H0.get (H.next+1)=some (.cells [.slice none 0 0,.slice none 0 0] false):=by rw[hH0];simp only[YV,YW,YX,YY];repeat (first|rw[if_pos trivial]|rw[if_pos (by omega)]|rw[if_neg (by omega)])
 simp -implicitDefEqProofs [nE,←hH0,g0]
 refine av (vY c h22 fun H1 k1=> ?_)
 have n1:=k1.next
 have g0:=(k1.get H.next (by omega)).trans g0
 have g1:=(k1.get (H.next+1) (by omega)).trans g1
 have k1:=k0.trans k1
 cases hat:S.at i with
 |none=>
  have hb:(decide (0≤i)&&decide (i<(S.R.length:Int)))=false:=by
   rcases DT.uo hat with z|z
   ·rw[decide_eq_false (by omega)];rfl
   ·rw[decide_eq_false (p:=i<(S.R.length:Int)) (by omega),Bool.and_false]
  simp -implicitDefEqProofs [hb,g0,g1]
  exact h0 hat _ (k1.set (by omega) _)
 |some R=>
  obtain⟨z1,z2,hi⟩:=DT.kR hat
  have hb:(decide (0≤i)&&decide (i<(S.R.length:Int)))=true:=by rw[decide_eq_true z1,decide_eq_true z2];rfl
  obtain⟨U,b,o,cap,cs,ro,e,hbl,hget,hrow,hbd,hd⟩:=(h.below.le k1).at hi
  simp only[Value.slice.injEq]at e
  obtain⟨rfl,-,rfl⟩:=e
  obtain⟨N,hN⟩: ∃N:Nat,i=N:=⟨i.toNat,by omega⟩
  subst hN
  simp only[Int.toNat_natCast]at hrow hbd hi
  have z2':N<S.R.length:=by omega
  have fit:=hf R (List.mem_of_getElem? hi)
  have t7:=fit.n7
  simp -implicitDefEqProofs [hb,g0,z1,z2,z2',hget,hrow,hbd,cK]
  refine av (Xn c mM h16 En h19 h20 h21 hd ⟨by omega,by omega⟩ (by have:=fit.tl;omega) fit.bs (by have:=fit.al;omega) fun U' w H2 k2 i2 s2=> ?_)
  have n2:=k2.next
  have g0:=(k2.get H.next (by omega)).trans g0
  have g1:=(k2.get (H.next+1) (by omega)).trans g1
  obtain⟨H3,hH3⟩: ∃X:aa,X=(H2.alloc (.cells [.int .i64 0,.int .i64 0,.int .i64 0,.int .i64 0,.int .i64 0,.slice none 0 0,.int .i64 0,.int .i64 0,.int .i64 0,.int .i64 0,.int .i64 0,.int .i64 0,.bool false,.bool false,.bool false,.bool false,.bool false,.bool false,.bool false,.bool false,.bool false,.bool false,.slice none 0 0,.int .i64 0,.int .i64 0,.slice none 0 0,.slice none 0 0] false)).set H2.next (.cells (dm R.lead.1 U') false):=⟨_,rfl⟩
  have k3:H2.le H3:=by rw[hH3];exact(H2.aj _).set (Nat.le_refl _) _
  have n3:H3.next=H2.next+1:=by rw[hH3];rfl
  have b3:H3.get H2.next=some (.cells (dm R.lead.1 U') false):=by rw[hH3,YW,if_pos rfl]
  have g0:=(k3.get H.next (by omega)).trans g0
  have g1:=(k3.get (H.next+1) (by omega)).trans g1
  have kk:=(k1.trans k2).trans k3
  have hS:=(h.below.le kk).weak (D':=fun b=>(D b∧b<H.next)∨(H.next+2≤b∧b<H3.next)) fun b z=>.inl z
  have hi3:=(i2.le k3).weak (D':=fun b=>(D b∧b<H.next)∨(H.next+2≤b∧b<H3.next)) fun b z=>.inl z
  have hs3:=(s2.le k3).weak (D':=fun b=>(D b∧b<H.next)∨(H.next+2≤b∧b<H3.next)) fun b z=>.inr (by
   have z:H1.next≤b∧b<H2.next:=z
   omega)
  simp -implicitDefEqProofs [cK,iY,←hH3,g0,b3,iq]
  refine av (FX c h22 hS z2' hi3 hs3 h7 hw (by have:=Xx R;omega) fun zY uq H4 k4 i4=> ?_)
  have n4:=k4.next
  have g1:=(k4.get (H.next+1) (by omega)).trans g1
  obtain⟨la',PI,Mi,wc',rfl,rfl⟩:=i4.cut
  simp -implicitDefEqProofs [g1]
  exact h1 R hat _ _ _ ((kk.trans k4).set (by omega) _) (i4.fin _ (p:=H.next+1) ⟨by omega,by omega⟩ (by omega) (by omega))
include hQ h19 h20 h21 h22 in
theorem Vg {S:DT}{vl vw:Value}{i:Int}(h:iw D H S vl vw)(hf: ∀R ∈ S.R,R.fit)(h7:S.R.length≤1000)(hw:S.way.length≤1024)
 (h0:S.at i=none→∀H',H.le H'→K (.tuple #[.agg #[vl,vw],.bool false]) H')
 (h1: ∀R,S.at i=some R→∀zY uq H',H.le H'→iw (Nw D H H') H' (S.say i.toNat (R.gM,[])) zY uq→K (.tuple #[.agg #[zY,uq],.bool true]) H'):
 c.C (c.F Cr) [.agg #[vl,vw],.int .i64 i] H K:=by
 refine c.enter h22.FN rfl ?_
 obtain⟨la,lc,wa,wc,rfl,rfl⟩:=h.cut
 obtain⟨H0,hH0⟩: ∃X:aa,X=(H.alloc (.cells [.slice la S.R.length lc,.slice wa S.way.length wc] false)).alloc (.cells [.slice none 0 0,.slice none 0 0] false):=⟨_,rfl⟩
 have k0:H.le H0:=by rw[hH0];exact(H.aj _).alloc _
 have n0:H0.next=H.next+2:=by rw[hH0];rfl
 have g0:H0.get H.next=some (.cells [.slice la S.R.length lc,.slice wa S.way.length wc] false):=by rw[hH0];simp only[YV,YW,YX,YY];repeat (first|rw[if_pos trivial]|rw[if_pos (by omega)]|rw[if_neg (by omega)])
 have g1:H0.get (H.next+1)=some (.cells [.slice none 0 0,.slice none 0 0] false):=by rw[hH0];simp only[YV,YW,YX,YY];repeat (first|rw[if_pos trivial]|rw[if_pos (by omega)]|rw[if_neg (by omega)])
 simp -implicitDefEqProofs [mD,←hH0,g0]
 refine av (vY c h22 fun H1 k1=> ?_)
 have n1:=k1.next
 have g0:=(k1.get H.next (by omega)).trans g0
 have g1:=(k1.get (H.next+1) (by omega)).trans g1
 have k1:=k0.trans k1
 cases hat:S.at i with
 |none=>
  have hb:(decide (0≤i)&&decide (i<(S.R.length:Int)))=false:=by
   rcases DT.uo hat with z|z
   ·rw[decide_eq_false (by omega)];rfl
   ·rw[decide_eq_false (p:=i<(S.R.length:Int)) (by omega),Bool.and_false]
  simp -implicitDefEqProofs [hb,g0,g1]
  exact h0 hat _ (k1.set (by omega) _)
 |some R=>
  obtain⟨z1,z2,hi⟩:=DT.kR hat
  have hb:(decide (0≤i)&&decide (i<(S.R.length:Int)))=true:=by rw[decide_eq_true z1,decide_eq_true z2];rfl
  obtain⟨U,b,o,cap,cs,ro,e,hbl,hget,hrow,hbd,hd⟩:=(h.below.le k1).at hi
  simp only[Value.slice.injEq]at e
  obtain⟨rfl,-,rfl⟩:=e
  obtain⟨N,hN⟩: ∃N:Nat,i=N:=⟨i.toNat,by omega⟩
  subst hN
  simp only[Int.toNat_natCast]at hrow hbd hi
  have z2':N<S.R.length:=by omega
  have fit:=hf R (List.mem_of_getElem? hi)
  have t7:=fit.n7
  simp -implicitDefEqProofs [hb,g0,z1,z2,z2',hget,hrow,hbd,cK]
  refine aI c.mono (U6 c hQ h19 h20 h21 hd fun U' H2 k2 i2=> ?_)
  have n2:=k2.next
  have g0:=(k2.get H.next (by omega)).trans g0
  have g1:=(k2.get (H.next+1) (by omega)).trans g1
  have kk:=k1.trans k2
  have hS:=(h.below.le kk).weak (D':=fun b=>(D b∧b<H.next)∨(H.next+2≤b∧b<H2.next)) fun b z=>.inl z
  have hi3:=i2.weak (D':=fun b=>(D b∧b<H.next)∨(H.next+2≤b∧b<H2.next)) fun b z=>.inl z
  simp -implicitDefEqProofs [g0]
  refine aI c.mono (FX c h22 hS z2' hi3 (nK.nil _ _) h7 hw (by simp) fun zY uq H4 k4 i4=> ?_)
  have n4:=k4.next
  have g1:=(k4.get (H.next+1) (by omega)).trans g1
  obtain⟨la',PI,Mi,wc',rfl,rfl⟩:=i4.cut
  simp -implicitDefEqProofs [g1]
  exact h1 R hat _ _ _ ((kk.trans k4).set (by omega) _) (i4.fin _ (p:=H.next+1) ⟨by omega,by omega⟩ (by omega) (by omega))
theorem Pn (R:DR)(s:ByteArray):(R.ax s).2.1.length≤R.n.toNat:=by
 unfold DR.ax
 split
 ·simp
 ·rw[Rh];exact Nat.le_refl _
include h19 h21 h22 in
theorem Ri {S:DT}{vl vw:Value}{i:Int}{s:ByteArray}(h:iw D H S vl vw)(hf: ∀R ∈ S.R,R.fit)(h7:S.R.length≤1000)(hw:S.way.length≤1024)
 (h0:S.at i=none→∀H',H.le H'→K (.tuple #[.agg #[vl,vw],.int .i64 1]) H')
 (h2: ∀R,S.at i=some R→(R.ax s).2.2≠0→∀H',H.le H'→K (.tuple #[.agg #[vl,vw],.int .i64 (R.ax s).2.2]) H')
 (h1: ∀R,S.at i=some R→(R.ax s).2.2=0→∀zY uq H',H.le H'→iw (Nw D H H') H' (S.say i.toNat ((R.ax s).1,(R.ax s).2.1)) zY uq→K (.tuple #[.agg #[zY,uq],.int .i64 0]) H'):
 c.C (c.F yL) [.agg #[vl,vw],.int .i64 i,.string s] H K:=by
 refine c.enter h22.Ct rfl ?_
 obtain⟨la,lc,wa,wc,rfl,rfl⟩:=h.cut
 obtain⟨H0,hH0⟩: ∃X:aa,X=(H.alloc (.cells [.slice la S.R.length lc,.slice wa S.way.length wc] false)).alloc (.cells [.slice none 0 0,.slice none 0 0] false):=⟨_,rfl⟩
 have k0:H.le H0:=by rw[hH0];exact(H.aj _).alloc _
 have n0:H0.next=H.next+2:=by rw[hH0];rfl
 have g0:H0.get H.next=some (.cells [.slice la S.R.length lc,.slice wa S.way.length wc] false):=by rw[hH0];simp only[YV,YW,YX,YY];repeat (first|rw[if_pos trivial]|rw[if_pos (by omega)]|rw[if_neg (by omega)])
 have g1:H0.get (H.next+1)=some (.cells [.slice none 0 0,.slice none 0 0] false):=by rw[hH0];simp only[YV,YW,YX,YY];repeat (first|rw[if_pos trivial]|rw[if_pos (by omega)]|rw[if_neg (by omega)])
 simp -implicitDefEqProofs [kG,←hH0,g0]
 refine av (vY c h22 fun H1 k1=> ?_)
 have n1:=k1.next
 have g0:=(k1.get H.next (by omega)).trans g0
 have g1:=(k1.get (H.next+1) (by omega)).trans g1
 have k1:=k0.trans k1
 cases hat:S.at i with
 |none=>
  have hb:(decide (0≤i)&&decide (i<(S.R.length:Int)))=false:=by
   rcases DT.uo hat with z|z
   ·rw[decide_eq_false (by omega)];rfl
   ·rw[decide_eq_false (p:=i<(S.R.length:Int)) (by omega),Bool.and_false]
  simp -implicitDefEqProofs [hb,g0,g1]
  exact h0 hat _ (k1.set (by omega) _)
 |some R=>
  obtain⟨z1,z2,hi⟩:=DT.kR hat
  have hb:(decide (0≤i)&&decide (i<(S.R.length:Int)))=true:=by rw[decide_eq_true z1,decide_eq_true z2];rfl
  obtain⟨U,b,o,cap,cs,ro,e,hbl,hget,hrow,hbd,hd⟩:=(h.below.le k1).at hi
  simp only[Value.slice.injEq]at e
  obtain⟨rfl,-,rfl⟩:=e
  obtain⟨N,hN⟩: ∃N:Nat,i=N:=⟨i.toNat,by omega⟩
  subst hN
  simp only[Int.toNat_natCast]at hrow hbd hi
  have z2':N<S.R.length:=by omega
  have fit:=hf R (List.mem_of_getElem? hi)
  have t7:=fit.n7
  simp -implicitDefEqProofs [hb,g0,z1,z2,z2',hget,hrow,hbd,cK]
  refine av (Q8 c h19 h21 (s:=s) hd ⟨by omega,by omega⟩ fit.nx.2 fit.nx.1 fun w H2 k2 i2 s2=> ?_)
  have n2:=k2.next
  have g0:=(k2.get H.next (by omega)).trans g0
  have g1:=(k2.get (H.next+1) (by omega)).trans g1
  obtain⟨H3,hH3⟩: ∃X:aa,X=(H2.alloc (.cells [.int .i64 0,.int .i64 0,.int .i64 0,.int .i64 0,.int .i64 0,.slice none 0 0,.int .i64 0,.int .i64 0,.int .i64 0,.int .i64 0,.int .i64 0,.int .i64 0,.bool false,.bool false,.bool false,.bool false,.bool false,.bool false,.bool false,.bool false,.bool false,.bool false,.slice none 0 0,.int .i64 0,.int .i64 0,.slice none 0 0,.slice none 0 0] false)).set H2.next (.cells (dm (R.ax s).1 U) false):=⟨_,rfl⟩
  have k3:H2.le H3:=by rw[hH3];exact(H2.aj _).set (Nat.le_refl _) _
  have n3:H3.next=H2.next+1:=by rw[hH3];rfl
  have b3:H3.get H2.next=some (.cells (dm (R.ax s).1 U) false):=by rw[hH3,YW,if_pos rfl]
  have g0:=(k3.get H.next (by omega)).trans g0
  have g1:=(k3.get (H.next+1) (by omega)).trans g1
  have kk:=(k1.trans k2).trans k3
  have hS:=(h.below.le kk).weak (D':=fun b=>(D b∧b<H.next)∨(H.next+2≤b∧b<H3.next)) fun b z=>.inl z
  have hi3:=(i2.le k3).weak (D':=fun b=>(D b∧b<H.next)∨(H.next+2≤b∧b<H3.next)) fun b z=>.inl z
  have hs3:=(s2.le k3).weak (D':=fun b=>(D b∧b<H.next)∨(H.next+2≤b∧b<H3.next)) fun b z=>.inr (by
   have z:H1.next≤b∧b<H2.next:=z
   omega)
  by_cases hz:(R.ax s).2.2=0
  ·simp -implicitDefEqProofs [cK,iY,←hH3,g0,b3,iq,hz]
   refine av (FX c h22 hS z2' hi3 hs3 h7 hw (by have:=Pn R s;omega) fun zY uq H4 k4 i4=> ?_)
   have n4:=k4.next
   have g1:=(k4.get (H.next+1) (by omega)).trans g1
   obtain⟨la',PI,Mi,wc',rfl,rfl⟩:=i4.cut
   simp -implicitDefEqProofs [g1]
   exact h1 R hat hz _ _ _ ((kk.trans k4).set (by omega) _) (i4.fin _ (p:=H.next+1) ⟨by omega,by omega⟩ (by omega) (by omega))
  ·simp -implicitDefEqProofs [cK,iY,←hH3,g0,g1,b3,iq,hz]
   exact h2 R hat hz _ (kk.set (by omega) _)
end
end
section
section
variable (c:Ctx) (mM:dw c) (hQ:bN c) (h16:dS c) (En:eF c) (h19:dU c) (h20:eG c) (h21:fM c) (h22:mH c) {H:aa} {K:Value→aa→Prop} {D:Nat→Prop}
include h20 h21 h22 in
theorem ZH {S:DT}{vl vw:Value}{i i2:Int}(h:iw D H S vl vw)(hf: ∀R ∈ S.R,R.fit)(h7:S.R.length≤1000)(hw:S.way.length≤1024)
 (h0:S.at i=none∨S.at i2=none→∀H',H.le H'→K (.tuple #[.agg #[vl,vw],.bool false]) H')
 (h1: ∀R,S.at i=some R→S.at i2≠none→∀zY uq H',H.le H'→iw (Nw D H H') H' (S.say i.toNat (R,R.ask i2)) zY uq→K (.tuple #[.agg #[zY,uq],.bool true]) H'):
 c.C (c.F FL) [.agg #[vl,vw],.int .i64 i,.int .i64 i2] H K:=by
 refine c.enter h22.Kc rfl ?_
 obtain⟨la,lc,wa,wc,rfl,rfl⟩:=h.cut
 obtain⟨H0,hH0⟩: ∃X:aa,X=(H.alloc (.cells [.slice la S.R.length lc,.slice wa S.way.length wc] false)).alloc (.cells [.slice none 0 0,.slice none 0 0] false):=⟨_,rfl⟩
 have k0:H.le H0:=by rw[hH0];exact(H.aj _).alloc _
 have n0:H0.next=H.next+2:=by rw[hH0];rfl
 have g0:H0.get H.next=some (.cells [.slice la S.R.length lc,.slice wa S.way.length wc] false):=by rw[hH0];simp only[YV,YW,YX,YY];repeat (first|rw[if_pos trivial]|rw[if_pos (by omega)]|rw[if_neg (by omega)])
 have g1:H0.get (H.next+1)=some (.cells [.slice none 0 0,.slice none 0 0] false):=by rw[hH0];simp only[YV,YW,YX,YY];repeat (first|rw[if_pos trivial]|rw[if_pos (by omega)]|rw[if_neg (by omega)])
 simp -implicitDefEqProofs [oQ,←hH0,g0]
 refine av (vY c h22 fun H1 k1=> ?_)
 have n1:=k1.next
 have g0:=(k1.get H.next (by omega)).trans g0
 have g1:=(k1.get (H.next+1) (by omega)).trans g1
 have k1:=k0.trans k1
 cases hat:S.at i with
 |none=>
  have hb:(decide (0≤i)&&decide (i<(S.R.length:Int)))=false:=by
   rcases DT.uo hat with z|z
   ·rw[decide_eq_false (by omega)];rfl
   ·rw[decide_eq_false (p:=i<(S.R.length:Int)) (by omega),Bool.and_false]
  simp -implicitDefEqProofs [hb,g0,g1]
  exact h0 (.inl hat) _ (k1.set (by omega) _)
 |some R=>
  obtain⟨z1,z2,hi⟩:=DT.kR hat
  have hb:(decide (0≤i)&&decide (i<(S.R.length:Int)))=true:=by rw[decide_eq_true z1,decide_eq_true z2];rfl
  obtain⟨U,b,o,cap,cs,ro,e,hbl,hget,hrow,hbd,hd⟩:=(h.below.le k1).at hi
  simp only[Value.slice.injEq]at e
  obtain⟨rfl,-,rfl⟩:=e
  obtain⟨N,hN⟩: ∃N:Nat,i=N:=⟨i.toNat,by omega⟩
  subst hN
  simp only[Int.toNat_natCast]at hrow hbd hi
  have z2':N<S.R.length:=by omega
  have fit:=hf R (List.mem_of_getElem? hi)
  have t7:=fit.n7
  simp -implicitDefEqProofs [hb,g0,z1,z2,z2']
  refine av (vY c h22 fun H2 k2=> ?_)
  have n2:=k2.next
  have g0:=(k2.get H.next (by omega)).trans g0
  have g1:=(k2.get (H.next+1) (by omega)).trans g1
  have hget:=(k2.get b hbl).trans hget
  have k1:=k1.trans k2
  cases SH:S.at i2 with
  |none=>
   have hb2:(decide (0≤i2)&&decide (i2<(S.R.length:Int)))=false:=by
    rcases DT.uo SH with z|z
    ·rw[decide_eq_false (by omega)];rfl
    ·rw[decide_eq_false (p:=i2<(S.R.length:Int)) (by omega),Bool.and_false]
   simp -implicitDefEqProofs [hb,hb2,g0,g1,z1,z2,z2']
   exact h0 (.inr SH) _ (k1.set (by omega) _)
  |some R2=>
   obtain⟨y1,y2,-⟩:=DT.kR SH
   have hb2:(decide (0≤i2)&&decide (i2<(S.R.length:Int)))=true:=by rw[decide_eq_true y1,decide_eq_true y2];rfl
   simp -implicitDefEqProofs [hb,hb2,g0,z1,z2,z2',y1,y2,hget,hrow,hbd,cK]
   refine aI c.mono (Zz c h20 h21 (i:=i2) (hd.le k2) (by have:=fit.tl;omega) fit.bs fun w H3 k3 s3=> ?_)
   have n3:=k3.next
   have g0:=(k3.get H.next (by omega)).trans g0
   have g1:=(k3.get (H.next+1) (by omega)).trans g1
   have hget:=(k3.get b (by omega)).trans hget
   have kk:=k1.trans k3
   have hS:=(h.below.le kk).weak (D':=fun b=>(D b∧b<H.next)∨(H.next+2≤b∧b<H3.next)) fun b z=>.inl z
   have hi3:=((hd.le k2).le k3).weak (D':=fun b=>(D b∧b<H.next)∨(H.next+2≤b∧b<H3.next)) fun b z=>.inl z
   have hs3:=s3.weak (D':=fun b=>(D b∧b<H.next)∨(H.next+2≤b∧b<H3.next)) fun b z=>.inr (by
    have z:H2.next≤b∧b<H3.next:=z
    omega)
   simp -implicitDefEqProofs [g0,hget,hrow,hbd,cK,z1,z2,z2']
   refine aI c.mono (FX c h22 hS z2' hi3 hs3 h7 hw (by unfold DR.ask;split <;> simp) fun zY uq H4 k4 i4=> ?_)
   have n4:=k4.next
   have g1:=(k4.get (H.next+1) (by omega)).trans g1
   obtain⟨la',PI,Mi,wc',rfl,rfl⟩:=i4.cut
   simp -implicitDefEqProofs [g1]
   exact h1 R hat (by rw[SH];simp) _ _ _ ((kk.trans k4).set (by omega) _) (i4.fin _ (p:=H.next+1) ⟨by omega,by omega⟩ (by omega) (by omega))
end
end
section
theorem qbM {H:aa}{size n cap i j:Nat}{a:Option Addr}{rows:List (List Value)}(h:qZ H size (.slice a n cap) rows)(h0:0<size)(hij:i≤j)(hj:j≤rows.length):
 ∃a' c',(∀X,cZ X size a n cap i j none=some (.slice a' (j-i) c'))∧qZ H size (.slice a' (j-i) c') ((rows.drop i).take (j-i)):=by
 obtain⟨v',e1,e2⟩:=h.cut h0 hij hj
 obtain⟨a',c',rfl⟩:=e2.len
 have hlen:((rows.drop i).take (j-i)).length=j-i:=by simp;omega
 rw[hlen]at e1 e2
 refine⟨a',c',fun X=> ?_,e2⟩
 rw[←e1]
 have hn:n=rows.length:=by
  obtain⟨b,cc,e⟩:=h.len
  simp only[Value.slice.injEq]at e
  exact e.2.1
 unfold cZ
 simp only[Option.getD_none]
 have hjn:j≤n:=by omega
 simp[hjn]
theorem NK (i:Int){n:Nat}(hn:0<n):0≤GM i n∧GM i n<n:=by
 have h2: -(n:Int)<Int.tmod i n:=by
  have:=Int.tmod_lt_of_pos (-i) (b:=(n:Int)) (by omega)
  rw[Int.neg_tmod]at this
  omega
 unfold GM
 exact⟨Int.tmod_nonneg _ (by omega),Int.tmod_lt_of_pos _ (by omega)⟩
section
variable (c:Ctx) (mM:dw c) (hQ:bN c) (h16:dS c) (En:eF c) (h19:dU c) (h20:eG c) (h21:fM c) (h22:mH c) {H:aa} {K:Value→aa→Prop} {D:Nat→Prop}
include h16 h22 in
theorem Rk {S:DT}{vl vw:Value}{i:Int}(h:iw D H S vl vw)(hw:S.way.length≤1024)
 (h0:S.way=[]→∀H',H.le H'→K (.tuple #[.agg #[vl,vw],.agg #[.int .i64 0,.int .i64 0,.int .i64 0,.int .i64 0,.int .i64 0,.int .i64 0,.slice none 0 0],.bool false]) H')
 (h1: ∀(p:Nat) (x:az),(p:Int)=GM i S.way.length→S.way[p]? =some x→∀uq ua uc H',H.le H'→iw (Nw D H H') H' ⟨S.R,S.way.eraseIdx p⟩ vl uq→eP D H' 4 (.slice ua x.ai.length uc) (x.ai.map aG)→K (.tuple #[.agg #[vl,uq],.agg (aC x (.slice ua x.ai.length uc)).toArray,.bool true]) H'):
 c.C (c.F Eg) [.agg #[vl,vw],.int .i64 i] H K:=by
 refine c.enter h22.Hq rfl ?_
 obtain⟨la,lc,wa,wc,rfl,rfl⟩:=h.cut
 obtain⟨H0,hH0⟩: ∃X:aa,X=((H.alloc (.cells [.slice la S.R.length lc,.slice wa S.way.length wc] false)).alloc (.cells [.slice none 0 0,.slice none 0 0] false)).alloc (.cells [.int .i64 0,.int .i64 0,.int .i64 0,.int .i64 0,.int .i64 0,.int .i64 0,.slice none 0 0] false):=⟨_,rfl⟩
 have k0:H.le H0:=by rw[hH0];exact((H.aj _).alloc _).alloc _
 have n0:H0.next=H.next+3:=by rw[hH0];rfl
 have g0:H0.get H.next=some (.cells [.slice la S.R.length lc,.slice wa S.way.length wc] false):=by rw[hH0];simp only[YV,YW,YX,YY];repeat (first|rw[if_pos trivial]|rw[if_pos (by omega)]|rw[if_neg (by omega)])
 have g1:H0.get (H.next+1)=some (.cells [.slice none 0 0,.slice none 0 0] false):=by rw[hH0];simp only[YV,YW,YX,YY];repeat (first|rw[if_pos trivial]|rw[if_pos (by omega)]|rw[if_neg (by omega)])
 have g2:H0.get (H.next+2)=some (.cells [.int .i64 0,.int .i64 0,.int .i64 0,.int .i64 0,.int .i64 0,.int .i64 0,.slice none 0 0] false):=by rw[hH0];simp only[YV,YW,YX,YY];repeat (first|rw[if_pos trivial]|rw[if_pos (by omega)]|rw[if_neg (by omega)])
 have ne1: ¬ H.next+2=H.next+1:=by omega
 have ME: ¬ H.next+1+1=H.next+1:=by omega
 have U7: ¬ H.next+1=H.next+2:=by omega
 by_cases hz:S.way=[]
 ·have hzl:(S.way.length:Int)=0:=by rw[hz];rfl
  simp -implicitDefEqProofs [jP,←hH0,g0,g1,g2,eq_true hzl,eq_true hz,ne1,ME,U7]
  exact h0 hz _ ((k0.set (by omega) _).set (by omega) _)
 have hpos:0<S.way.length:=List.length_pos_iff.2 hz
 have hzl: ¬ (S.way.length:Int)=0:=by omega
 have qcv: ¬ S.way.length=0:=by omega
 simp -implicitDefEqProofs [jP,←hH0,g0,hzl,hz]
 refine av (Xc c h16 (i:=i) (n:=S.way.length) ⟨hpos,hw⟩ ?_)
 obtain⟨r1,r2⟩:=NK i hpos
 obtain⟨p,hp⟩: ∃p:Nat,GM i S.way.length=p:=⟨(GM i S.way.length).toNat,by omega⟩
 rw[hp]at r1 r2 ⊢
 have hpl:p<S.way.length:=by omega
 obtain⟨us,u1,u2,u3,ws,w1,w2,w3⟩:=id h
 have zw:=eX w1
 obtain⟨x,hx⟩: ∃x,S.way[p]? =some x:=⟨S.way[p],List.getElem?_eq_getElem hpl⟩
 obtain⟨u,hu⟩: ∃u,ws[p]? =some u:=⟨ws[p]'(by omega),List.getElem?_eq_getElem (by omega)⟩
 have hsu:=w3 p x u hx hu
 obtain⟨y,rfl⟩:=hsu.cut
 obtain⟨rows,hrows⟩: ∃r,r=List.zipWith aC S.way ws:=⟨_,rfl⟩
 have hrp:rows[p]? =some (aC x (.slice y.1 x.ai.length y.2)):=by rw[hrows,List.getElem?_zipWith,hx,hu]
 have h7: ∀r ∈ rows,r.length=7:=by rw[hrows];exact gI _ _
 have hone:rows.flatten.all cO=true:=by rw[hrows];exact um (nK.ones w1 w3)
 rw[←hrows]at zw w2
 have w0:=w2.le k0
 obtain⟨b,o,cc,cs,ro,ea,hbl,hget,hrlen,hrow,hbd⟩:=w0.1.sl.at hrp
 rw[zw]at ea
 simp only[Value.slice.injEq]at ea
 obtain⟨rfl,-,rfl⟩:=ea
 simp only[aC]at hrow
 obtain⟨H1,hH1⟩: ∃X:aa,X=(H0.alloc (.cells [.int .i64 0,.int .i64 0,.int .i64 0,.int .i64 0,.int .i64 0,.int .i64 0,.slice none 0 0] false)).set H0.next (.cells [.int .i64 x.kind,.int .i64 x.fr,.int .i64 x.to,.int .i64 x.slot,.int .i64 x.ba,.int .i64 x.bn,.slice y.1 x.ai.length y.2] false):=⟨_,rfl⟩
 have k1:H0.le H1:=by rw[hH1];exact(H0.aj _).set (Nat.le_refl _) _
 have n1:H1.next=H0.next+1:=by rw[hH1];rfl
 have x1:H1.get H0.next=some (.cells [.int .i64 x.kind,.int .i64 x.fr,.int .i64 x.to,.int .i64 x.slot,.int .i64 x.ba,.int .i64 x.bn,.slice y.1 x.ai.length y.2] false):=by rw[hH1,YW,if_pos rfl]
 have e0:=(k1.get H.next (by omega)).trans g0
 obtain⟨a1,c1,s1,q1⟩:=qbM (w0.le k1).2 (i:=0) (j:=p) (by omega) (by omega) (by omega)
 obtain⟨a2,c2,s2,q2⟩:=qbM (w0.le k1).2 (i:=p+1) (j:=S.way.length) (by omega) (by omega) (by omega)
 rw[Nat.sub_zero]at s1 q1
 rw[List.drop_zero]at q1
 have m1:(rows.take p).length=p:=by rw[List.length_take];omega
 have m2:((rows.drop (p+1)).take (S.way.length-(p+1))).length=S.way.length-(p+1):=by rw[List.length_take,List.length_drop];omega
 have m2':(rows.drop (p+1)).take (S.way.length-(p+1))=rows.drop (p+1):=by rw[List.take_of_length_le (by rw[List.length_drop];omega)]
 have qbN: ∀l:List (List Value),(∀r ∈ l,r ∈ rows)→l.flatten.all cO=true:=fun l hl=>by
  rw[List.all_eq_true]at hone ⊢
  intro z hz
  obtain⟨r,hr,hz⟩:=List.mem_flatten.1 hz
  exact hone z (List.mem_flatten.2 ⟨r,hl r hr,hz⟩)
 obtain⟨v2,H2,Vk,Rz,kp2,-⟩:=(Gr.nil H1 H1.next 7).many (bytes:=72) (aa.le_refl _) (Nat.le_refl _) (by omega) (by omega) (new:=rows.take p) (by rw[m1];simp;omega) (by rw[m1];simp;omega) (fun r hr=>h7 r (List.mem_of_mem_take hr)) (qbN _ fun r hr=>List.mem_of_mem_take hr)
 have k2:H1.le H2:=kp2.le (Nat.le_refl _)
 have n2:=k2.next
 rw[List.nil_append]at Rz
 obtain⟨v3,H3,ap3,IB,kp3,-⟩:=Rz.many (bytes:=72) (aa.le_refl _) (by omega) (by omega) (by omega) (new:=rows.drop (p+1)) (by rw[m1,List.length_drop];omega) (by rw[m1,List.length_drop];omega) (fun r hr=>h7 r (List.mem_of_mem_drop hr)) (qbN _ fun r hr=>List.mem_of_mem_drop hr)
 have k3:H1.le H3:=(kp2.trans kp3).le (Nat.le_refl _)
 have f2:=q1.first (by omega)
 rw[m1]at f2 Vk
 have f3:=(q2.le k2).first (by omega)
 rw[m2,m2']at f3
 have hdl:(rows.drop (p+1)).length=S.way.length-(p+1):=by rw[List.length_drop,zw]
 rw[hdl]at ap3
 have n3:=k3.next
 have b2:=(k2.get H.next (by omega)).trans e0
 have b3:=(k3.get H.next (by omega)).trans e0
 have e1:=((k1.trans k3).get (H.next+1) (by omega)).trans g1
 have e2:=((k1.trans k3).get (H.next+2) (by omega)).trans g2
 have x3:=(k3.get H0.next (by omega)).trans x1
 obtain⟨va,vc,hvv⟩: ∃va vc,v3 = .slice va (S.way.eraseIdx p).length vc:=by
  obtain⟨a,cp,e⟩:=IB.grow.len
  rw[List.length_append,m1,hdl]at e
  exact⟨a,cp,by rw[List.length_eraseIdx_of_lt hpl,e];congr 1;omega⟩
 subst hvv
 have hw1:IntKind.i64.wrap ((p:Int)+1)=(p:Int)+1:=wrap64 (by omega) (by omega)
 have Ze:(p:Int)≤(S.way.length:Int):=by omega
 have qcw:(p:Int)<(S.way.length:Int):=by omega
 have qcx:(p:Int)+1≤(S.way.length:Int):=by omega
 have hp1:p+1≤S.way.length:=by omega
 have Sn:p≤S.way.length:=by omega
 have z1:(0:Int)≤(p:Int)+1:=by omega
 have z2:((p:Int)+1).toNat=p+1:=by omega
 have XL: ¬ H0.next=H.next:=by omega
 have XM: ¬ H.next+1=H.next:=by omega
 have ne6: ¬ H.next+1+1=H.next:=by omega
 have ne7: ¬ H0.next=H.next+1:=by omega
 have ne8: ¬ H0.next=H.next+1+1:=by omega
 have ne9: ¬ H.next+2=H.next:=by omega
 have qcy: ¬ H0.next=H.next+2:=by omega
 simp -implicitDefEqProofs [g0,hpl,qcw,hget,hrow,hbd,←hH1,e0,eU,nL,Sn,Ze,qcx,hp1,z1,z2,hw1,s1,s2,bG,f2,Vk,b2,f3,ap3,b3,XL,x3,e1,e2,XM,ne6,ne1,ME,U7,ne7,ne8,ne9,qcy]
 have fin: ∀o1 o2 o3,K (.tuple #[.agg #[.slice la S.R.length lc,.slice va (S.way.eraseIdx p).length vc],.agg (aC x (.slice y.1 x.ai.length y.2)).toArray,.bool true]) (((H3.set H.next o1).set (H.next+1) o2).set (H.next+2) o3):=by
  intro o1 o2 o3
  have kk:H.le (((H3.set H.next o1).set (H.next+1) o2).set (H.next+2) o3):=((((k0.trans k1).trans k3).set (Nat.le_refl _) _).set (by omega) _).set (by omega) _
  have hb:=(h.le kk).weak (D':=Nw D H (((H3.set H.next o1).set (H.next+1) o2).set (H.next+2) o3)) fun b z=>.inl z
  refine h1 p x hp.symm hx _ _ _ _ kk ?_ (hsu.le kk)
  refine⟨us,u1,((u2.le kk).weak fun b z=>.inl z),fun q R' U' ha hb=>((u3 q R' U' ha hb).le kk).weak fun b z=>.inl z,ws.eraseIdx p,?_,?_,fun q z u ha hb=> ?_⟩
  ·show(ws.eraseIdx p).length=(S.way.eraseIdx p).length
   rw[List.length_eraseIdx_of_lt (by omega),List.length_eraseIdx_of_lt hpl,w1]
  ·show eP _ _ 7 _ (List.zipWith aC (S.way.eraseIdx p) (ws.eraseIdx p))
   have hrr:List.zipWith aC (S.way.eraseIdx p) (ws.eraseIdx p)=rows.take p++rows.drop (p+1):=by
    rw[List.eraseIdx_eq_take_drop_succ,List.eraseIdx_eq_take_drop_succ,List.zipWith_append (by rw[List.length_take,List.length_take,w1]),←List.take_zipWith,←List.drop_zipWith,←hrows]
   rw[hrr]
   exact(((IB.set (by omega) o1).set (by omega) o2).set (by omega) o3).grow.QD.weak fun b hb=>.inr ⟨by omega,hb.2⟩
  ·have ha:(S.way.eraseIdx p)[q]? =some z:=ha
   rw[List.getElem?_eraseIdx]at ha hb
   by_cases hq:q<p
   ·rw[if_pos hq]at ha hb
    exact((w3 q z u ha hb).le kk).weak fun b z=>.inl z
   ·rw[if_neg hq]at ha hb
    exact((w3 (q+1) z u ha hb).le kk).weak fun b z=>.inl z
 exact fin _ _ _
end
end
section
section
variable (c:Ctx) (mM:dw c) (hQ:bN c) (h16:dS c) (En:eF c) (h19:dU c) (h20:eG c) (h21:fM c) (h22:mH c) {H:aa} {K:Value→aa→Prop} {D:Nat→Prop}
include mM hQ h16 En h19 h20 h21 h22 in
theorem Rl {S:DT}{vl vw:Value}{i:Int}(h:iw D H S vl vw)(hf: ∀R ∈ S.R,R.fit)(hN: ∀x ∈ S.way,0≤x.to∧x.to<S.R.length∧x.ai.length≤1024)(h7:S.R.length≤1000)(hw:S.way.length≤1024)
 (hlen: ∀(R:DR) (x:az),R ∈ S.R→x ∈ S.way→(R.take x).2.length≤100000)
 (h0:S.way=[]→∀H',H.le H'→K (.tuple #[.agg #[vl,vw],.bool false]) H')
 (h1: ∀(p:Nat) (x:az) (R:DR),(p:Int)=GM i S.way.length→S.way[p]? =some x→S.R[x.to.toNat]? =some R→∀zY uq H',H.le H'→iw (Nw D H H') H' (DT.say ⟨S.R,S.way.eraseIdx p⟩ x.to.toNat (R.take x)) zY uq→K (.tuple #[.agg #[zY,uq],.bool true]) H'):
 c.C (c.F yK) [.agg #[vl,vw],.int .i64 i] H K:=by
 refine c.enter h22.Cs rfl ?_
 obtain⟨la,lc,wa,wc,rfl,rfl⟩:=h.cut
 obtain⟨H0,hH0⟩: ∃X:aa,X=(H.alloc (.cells [.slice la S.R.length lc,.slice wa S.way.length wc] false)).alloc (.cells [.slice none 0 0,.slice none 0 0] false):=⟨_,rfl⟩
 have k0:H.le H0:=by rw[hH0];exact(H.aj _).alloc _
 have n0:H0.next=H.next+2:=by rw[hH0];rfl
 have g0:H0.get H.next=some (.cells [.slice la S.R.length lc,.slice wa S.way.length wc] false):=by rw[hH0];simp only[YV,YW,YX,YY];repeat (first|rw[if_pos trivial]|rw[if_pos (by omega)]|rw[if_neg (by omega)])
 have g1:H0.get (H.next+1)=some (.cells [.slice none 0 0,.slice none 0 0] false):=by rw[hH0];simp only[YV,YW,YX,YY];repeat (first|rw[if_pos trivial]|rw[if_pos (by omega)]|rw[if_neg (by omega)])
 simp -implicitDefEqProofs [kF,←hH0,g0]
 refine av (Rk c h16 h22 (i:=i) (h.below.le k0) hw (fun hz H1 k1=> ?_) (fun p x hp hx uq ua uc H1 k1 i1 s1=> ?_))
 ·have n1:=k1.next
  have g0:=(k1.get H.next (by omega)).trans g0
  have g1:=(k1.get (H.next+1) (by omega)).trans g1
  have ne1: ¬ H.next=H1.next:=by omega
  have ME: ¬ H.next=H1.next+1:=by omega
  have U7: ¬ H.next+1=H1.next:=by omega
  have XL: ¬ H1.next=H1.next+1:=by omega
  have XM: ¬ H1.next+1=H1.next:=by omega
  simp -implicitDefEqProofs [g0,g1,ne1,ME,U7,XL,XM]
  refine h0 hz _ (((((((k0.trans k1).alloc _).alloc _).set ?_ _).set ?_ _).set ?_ _))
  all_goals omega
 ·have n1:=k1.next
  have g0:=(k1.get H.next (by omega)).trans g0
  have g1:=(k1.get (H.next+1) (by omega)).trans g1
  obtain⟨t1,t2,t3⟩:=hN x (List.mem_of_getElem? hx)
  obtain⟨N,hNN⟩: ∃N:Nat,x.to=N:=⟨x.to.toNat,by omega⟩
  have hNl:N<S.R.length:=by omega
  have ZI:(N:Int)<(S.R.length:Int):=by omega
  have hN0:0≤(N:Int):=by omega
  obtain⟨R,hR⟩: ∃R,S.R[N]? =some R:=⟨S.R[N],List.getElem?_eq_getElem hNl⟩
  have hto:x.to.toNat=N:=by omega
  have hRm:=List.mem_of_getElem? hR
  have hxm:=List.mem_of_getElem? hx
  obtain⟨la1,lc1,bB,wc1,e1,rfl⟩:=i1.cut
  simp only at e1
  have i1k:=i1
  obtain⟨U,b,o,cap,cs,ro,e,hbl,hget,hrow,hbd,hd⟩:=i1.at (i:=N) (R:=R) hR
  simp only[Value.slice.injEq]at e
  obtain⟨rfl,-,rfl⟩:=e
  obtain⟨H2,hH2⟩: ∃X:aa,X=(((H1.alloc (.cells [.slice none 0 0,.slice none 0 0] false)).alloc (.cells [.int .i64 0,.int .i64 0,.int .i64 0,.int .i64 0,.int .i64 0,.int .i64 0,.slice none 0 0] false)).set H1.next (.cells [.slice (some ⟨b,o,none⟩) S.R.length lc,.slice bB (S.way.eraseIdx p).length wc1] false)).set (H1.next+1) (.cells [.int .i64 x.kind,.int .i64 x.fr,.int .i64 N,.int .i64 x.slot,.int .i64 x.ba,.int .i64 x.bn,.slice ua x.ai.length uc] false):=⟨_,rfl⟩
  have k2:H1.le H2:=by rw[hH2];exact(((H1.aj _).alloc _).set (Nat.le_refl _) _).set (by omega) _
  have n2:H2.next=H1.next+2:=by rw[hH2];rfl
  have b1:H2.get H1.next=some (.cells [.slice (some ⟨b,o,none⟩) S.R.length lc,.slice bB (S.way.eraseIdx p).length wc1] false):=by rw[hH2];simp only[YV,YW,YX,YY];repeat (first|rw[if_pos trivial]|rw[if_pos (by omega)]|rw[if_neg (by omega)])
  have b2:H2.get (H1.next+1)=some (.cells [.int .i64 x.kind,.int .i64 x.fr,.int .i64 N,.int .i64 x.slot,.int .i64 x.ba,.int .i64 x.bn,.slice ua x.ai.length uc] false):=by rw[hH2];simp only[YV,YW,YX,YY];repeat (first|rw[if_pos trivial]|rw[if_pos (by omega)]|rw[if_neg (by omega)])
  have g0:=(k2.get H.next (by omega)).trans g0
  have g1:=(k2.get (H.next+1) (by omega)).trans g1
  have Nt:=(k2.get b hbl).trans hget
  obtain⟨H3,hH3⟩: ∃X:aa,X=H2.alloc (.cells [.int .i64 0,.int .i64 0,.int .i64 0,.int .i64 0,.int .i64 0,.slice none 0 0,.int .i64 0,.int .i64 0,.int .i64 0,.int .i64 0,.int .i64 0,.int .i64 0,.bool false,.bool false,.bool false,.bool false,.bool false,.bool false,.bool false,.bool false,.bool false,.bool false,.slice none 0 0,.int .i64 0,.int .i64 0,.slice none 0 0,.slice none 0 0] false):=⟨_,rfl⟩
  have k3:H2.le H3:=by rw[hH3];exact H2.aj _
  have n3:H3.next=H2.next+1:=by rw[hH3];rfl
  have z3:H3.get H2.next=some (.cells [.int .i64 0,.int .i64 0,.int .i64 0,.int .i64 0,.int .i64 0,.slice none 0 0,.int .i64 0,.int .i64 0,.int .i64 0,.int .i64 0,.int .i64 0,.int .i64 0,.bool false,.bool false,.bool false,.bool false,.bool false,.bool false,.bool false,.bool false,.bool false,.bool false,.slice none 0 0,.int .i64 0,.int .i64 0,.slice none 0 0,.slice none 0 0] false):=by rw[hH3,YV,if_pos rfl]
  simp -implicitDefEqProofs [aC,hNN,←hH2,b1,b2,hNl,ZI,hN0,Nt,hrow,hbd,cK,←hH3]
  have k13:=k2.trans k3
  have U3:=fun K'=>Xr c mM hQ h16 En h19 h20 h21 (K:=K') (x:=x) (hd.le k13) ((s1.le k13).weak (D':=Nw (fun b=>D b∧b<H.next) H0 H1) fun b z=>.inl z) (hf R hRm) t3
  unfold aC at U3
  rw[hNN]at U3
  refine aI c.mono (U3 _ fun U' w H4 k4 i4 s4=> ?_)
  have n4:=k4.next
  have z4:=(k4.get H2.next (by omega)).trans z3
  have g0:=((k3.trans k4).get H.next (by omega)).trans g0
  have g1:=((k3.trans k4).get (H.next+1) (by omega)).trans g1
  have b1:=((k3.trans k4).get H1.next (by omega)).trans b1
  have b2:=((k3.trans k4).get (H1.next+1) (by omega)).trans b2
  obtain⟨R',hR'⟩: ∃R',R'=(R.take x).1:=⟨_,rfl⟩
  obtain⟨l,hl⟩: ∃l,l=(R.take x).2:=⟨_,rfl⟩
  rw[←hR']at i4 ⊢
  rw[←hl]at s4
  obtain⟨H5,hH5⟩: ∃X:aa,X=H4.set H2.next (.cells (dm R' U') false):=⟨_,rfl⟩
  have n5:H5.next=H4.next:=by rw[hH5];rfl
  have k15:H1.le H5:=by rw[hH5];exact(k13.trans k4).set (by omega) _
  have z5:H5.get H2.next=some (.cells (dm R' U') false):=by rw[hH5,YW,if_pos rfl]
  have g1:H5.get (H.next+1)=some (.cells [.slice none 0 0,.slice none 0 0] false):=by rw[hH5,YW,if_neg (by omega)];exact g1
  have b1:H5.get H1.next=some (.cells [.slice (some ⟨b,o,none⟩) S.R.length lc,.slice bB (S.way.eraseIdx p).length wc1] false):=by rw[hH5,YW,if_neg (by omega)];exact b1
  have b2:H5.get (H1.next+1)=some (.cells [.int .i64 x.kind,.int .i64 x.fr,.int .i64 N,.int .i64 x.slot,.int .i64 x.ba,.int .i64 x.bn,.slice ua x.ai.length uc] false):=by rw[hH5,YW,if_neg (by omega)];exact b2
  have hS:iw (fun b=>(D b∧b<H.next)∨(H.next+2≤b∧b<H5.next)) H5 ⟨S.R,S.way.eraseIdx p⟩ (.slice (some ⟨b,o,none⟩) S.R.length lc) (.slice bB (S.way.eraseIdx p).length wc1):=by
   refine(i1.le k15).weak fun b hb=> ?_
   rcases hb with hb|hb
   ·exact .inl hb
   ·exact .inr ⟨by omega,by omega⟩
  have hi5:qG (fun b=>(D b∧b<H.next)∨(H.next+2≤b∧b<H5.next)) H5 R' U':=by
   rw[hH5]
   refine(i4.fr ((Fr.refl (fun b=>b=H2.next) H4).set (.inl rfl) _) (fun b hb hn=> ?_)).weak fun b hb=> ?_
   ·have hn:b=H2.next:=hn
    rcases hb with (hb|hb)|hb <;> omega
   ·rcases hb with (hb|hb)|hb
    ·exact .inl hb
    ·exact .inr ⟨by omega,by rw[YY];omega⟩
    ·exact .inr ⟨by omega,by rw[YY];omega⟩
  have hs5:nK (fun b=>(D b∧b<H.next)∨(H.next+2≤b∧b<H5.next)) H5 w l:=by
   rw[hH5]
   refine(s4.fr ((Fr.refl (fun b=>b=H2.next) H4).set (.inl rfl) _) (fun b hb hn=> ?_)).weak fun b hb=> ?_
   ·have hn:b=H2.next:=hn
    have hb:H3.next≤b∧b<H4.next:=hb
    omega
   ·have hb:H3.next≤b∧b<H4.next:=hb
    exact .inr ⟨by omega,by rw[YY];omega⟩
  have hll:l.length≤100000:=by rw[hl];exact hlen R x hRm hxm
  have Vm:(S.way.eraseIdx p).length≤1024:=by have:=List.length_eraseIdx_le S.way p;omega
  simp -implicitDefEqProofs [z4,cK,iY,←hH5,b1,b2,z5,iq]
  refine av (FX c h22 hS hNl hi5 hs5 h7 Vm hll fun zY uq H6 k6 i6=> ?_)
  have n6:=k6.next
  have g1:=(k6.get (H.next+1) (by omega)).trans g1
  obtain⟨la',PI,Mi,wc',rfl,rfl⟩:=i6.cut
  simp -implicitDefEqProofs [g1]
  have hres:=h1 p x R hp hx (by rw[hto];exact hR)
  rw[hto]at hres
  have qbO:R.take x=(R',l):=by rw[hR',hl]
  rw[qbO]at hres
  exact hres _ _ _ ((((k0.trans k1).trans k15).trans k6).set (by omega) _) (i6.fin _ (p:=H.next+1) ⟨by omega,by omega⟩ (by omega) (by omega))
end
end
end
end Go.Proofs.YtpbbjfighohokaaGreatI
