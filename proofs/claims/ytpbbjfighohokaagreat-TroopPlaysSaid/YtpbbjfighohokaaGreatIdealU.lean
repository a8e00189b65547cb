/- A region that draws its order: one order shows them all (the steps that are drawn). / A region that draws its order: one order shows them all (the whole region). / Code, results, calls. / Plain operations in the place of the model's, where the types allow it. / The code with plain operations; laws o -/
import Derived.Test.YtpbbjfighohokaaGreatIdealP
import Derived.Laws.StructEq
namespace Go.Proofs.YtpbbjfighohokaaGreatI
open Go
set_option linter.unusedSimpArgs false
set_option linter.unusedVariables false
section
section
variable {P:Program} {C:bS} {n:Nat} {ops:Array Oper} {xs:List aN} {σ:List Nat}
variable {K:Env→aa→Prop} {T0:Env} {R0:Ren} {H0:aa} {w0:World} {pre rest:List Nat} {S:Nat→Prop} {xh:Nat→Nat} {T:Env} {H:aa} {R:Ren} {a:Act} {w:World}
theorem Ext.realize {s:Sem Next}{r:Nat}{y v':Value}{w':World}{R':Ren}(h:Ext R0 H0 w0 R H w)(hm:Made P R H w s r y v' w' R')(hr:H0.next≤r):Ext R0 H0 w0 R' H w':=by
 refine⟨h.le.trans hm.le,h.next,fun b hb=> ?_,h.far,h.ro,fun k hk hn=> ?_,fun b hb hl=> ?_,Nat.le_trans h.size (by rw[hm.one.size];omega),hm.one.os.trans h.os,hm.one.tape.trans h.tape,hm.one.output.trans h.output⟩
 ·rcases(hm.dom b).1 hb with h1|h1
  ·exact h.new b h1
  ·exact .inr (h1▸hr)
 ·rw[hm.one.old k (Nat.lt_of_lt_of_le hk h.size)];exact h.frame k hk hn
 ·rcases(hm.dom b).1 hb with h1|h1
  ·rw[hm.le.blk b h1];exact h.own b h1 hl
  ·subst h1;exact .inl (by rw[hm.blk];exact h.size)
theorem Gz (hR:dM P n ops xs σ){i:Nat}{o:Oper}{x:aN}(hI:Inv P C n ops xs σ K T0 R0 H0 w0 pre rest S xh T H R a w)(hi:i ∈ pre)(hns: ¬ S i)(ho:ops[i]? =some o)(hx:xs[i]? =some x)
 (hco:rV P n ops o x) (hr: ∀e ∈ o.after.toList,Region.binds .any e=true→S e.on) {v v':Value} {R':Ren} {w':World} (hv: ∀d,x.dst=some d→T d=v) (hvr:VR R' v v') (P5:jC R' H w')
 (hle:R.le R') (xk:Ext R0 H0 w0 R' H w') (hdom: ∀b,R'.dom b→R.dom b∨(b=xh i∧makes ops xs T T0 i)):Inv P C n ops xs σ K T0 R0 H0 w0 pre rest (fun k=>S k∨k=i) xh T H R' (a.put o.dst v') w':=by
 have hdi:fF ops i=x.dst:=by rw[qo ho,hco.dst]
 refine⟨hI.sched,?_,?_,fun j hj ha=>.inl (hI.acts j hj ha),hI.run,P5,?_,by rw[put_defers];exact hI.defers,hI.old,?_,?_,xk⟩
 ·rintro j (h|rfl)
  ·exact hI.sub j h
  ·exact hi
 ·rintro j oj hj (h|rfl) e he hb
  ·exact .inl (hI.closed j oj hj h e he hb)
  ·have:oj=o:=by rw[ho]at hj;exact(Option.some.inj hj).symm
   subst this
   exact .inl (hr e he hb)
 ·rw[XP hdi hR hv,←hco.dst]
  exact(hI.tmps.mono hle).put (fun d hd=>hco.lt d (by rw[←hco.dst];exact hd)) hvr
 ·intro j hj hsj y hy
  have VK: ¬ S j:=fun h=>hsj (.inl h)
  have hji:j≠i:=fun h=>hsj (.inr h)
  obtain⟨u,h1,h2⟩:=hI.pend j hj VK y hy
  refine⟨u,h1,?_⟩
  cases hw:dI (EI ops (eY ops.toList []) j T T0) y.guard with
  |false=>rw[hw]at h2;exact h2
  |true=>
   rw[hw]at h2
   rcases h2 with h2|⟨h5,obj,mk,h6,h7,h8,h9,h10⟩
   ·exact .inl h2
   ·refine .inr ⟨h5,obj,mk,h6,h7,h8,fun hd=> ?_,h10⟩
    rcases hdom _ hd with h11|⟨h11,h12⟩
    ·exact h9 h11
    ·exact hji (hI.inj j hj i hi VK hns ⟨y,hy,h5,hw⟩ h12 h11)
 ·intro j hj k hk hsj hsk hmj hmk he
  exact hI.inj j hj k hk (fun h=>hsj (.inl h)) (fun h=>hsk (.inl h)) hmj hmk he
theorem Ug (hR:dM P n ops xs σ){i:Nat}{o:Oper}(hI:Inv P C n ops xs σ K T0 R0 H0 w0 pre rest S xh T H R a w)(hi:i ∈ pre)(hns: ¬ S i)(ho:ops[i]? =some o)
 (hr: ∀e ∈ o.after.toList,Region.binds .any e=true→S e.on) {next:Act→World→Prop} {Q:Exit→Act→World→Prop}
 (hn: ∀R' a' w',Inv P C n ops xs σ K T0 R0 H0 w0 pre rest (fun k=>S k∨k=i) xh T H R' a' w'→next a' w'):wpOp P ops Q i next a w:=by
 obtain⟨o',x,ho',hx,hco⟩:=hR.get (Array.getElem?_eq_some_iff.1 ho).1
 have:o'=o:=by rw[ho]at ho';exact(Option.some.inj ho').symm
 subst this
 have hag:=Im (T:=T) (T0:=T0) hR hI.closed ho hr hns
 obtain⟨v,hv,h2⟩:=hI.pend i hi hns x hx
 unfold wpOp
 simp only[ho]
 rw[Dt hI.tmps hco.guard hco.glt,hag.guard hco]
 cases hw:dI (EI ops (eY ops.toList []) i T T0) x.guard with
 |false=>
  rw[hw]at h2
  subst h2
  simp only[Bool.false_eq_true,if_false]
  exact hn R _ w (Gz hR hI hi hns ho hx hco hr hv (VR.undef R) hI.Eu R.le_refl hI.ext fun b hb=>.inl hb)
 |true=>
  rw[hw]at h2
  simp only[if_true]
  refine .inl ?_
  unfold Oper.wp
  rcases h2 with⟨hk,h3⟩|⟨hk,obj,mk,h3,h4,h5,h6,h7,h10⟩
  ·rw[←hag.bL hco]at h3
   obtain⟨v',h8,h9⟩:=Vw hI.Eu hI.tmps hco.op hk h3
   rw[h8]
   exact hn R _ w (Gz hR hI hi hns ho hx hco hr hv h9 hI.Eu R.le_refl hI.ext fun b hb=>.inl hb)
  ·rw[←hag.jq hco]at h3
   obtain⟨v',w',R',hm⟩:=Vz hI.Eu hI.tmps hco.op h3 h7 h6 h5
   rw[hm.run]
   subst h4
   refine hn R' _ w' (Gz hR hI hi hns ho hx hco hr hv hm.val hm.Eu hm.le (hI.ext.realize hm h10) fun b hb=> ?_)
   rcases(hm.dom b).1 hb with h|h
   ·exact .inl h
   ·exact .inr ⟨h,x,hx,hk,hw⟩
theorem EO {T:Env}{H:aa}: ∀{st:List aN},dx P T H st→∀y ∈ st,aQ P T H y
 |[],_,y,hy=>by simp at hy
 |[x],h,y,hy=>by simp at hy;subst hy;exact h
 |x::z::r,h,y,hy=>by
  rcases List.mem_cons.1 hy with rfl|hy
  ·exact h.1
  ·exact EO (st:=z::r) h.2 y hy
theorem P6 (hR:dM P n ops xs σ){e:Nat}{r:List Nat}{o:Oper}{x:aN}(hI:Inv P C n ops xs σ K T0 R0 H0 w0 pre (e::r) S xh T H R a w)(ho:ops[e]? =some o)(hx:xs[e]? =some x)
 (hco:rV P n ops o x) (hr: ∀q ∈ o.after.toList,Region.binds .any q=true→S q.on) {v v':Value} {R':Ren} {H':aa} {w':World} (hvr:VR R' v v') (P5:jC R' H' w')
 (xk:Ext R H w R' H' w') (hrun:bM P C (Mj xs (eY ops.toList []) (pre++[e]) r) K (T.put x.dst v) H')
 (hstill: ∀j ∈ pre,¬ S j→∀y u,xs[j]? =some y→dI (EI ops (eY ops.toList []) j T T0) y.guard=true→y.op.kind = .rd→bL P (EI ops (eY ops.toList []) j T T0) H y.op=some u→(∀d,y.dst=some d→T d=u) →
   ∃u',bL P (EI ops (eY ops.toList []) j T T0) H' y.op=some u'∧∀d,y.dst=some d→T d=u'):
 Inv P C n ops xs σ K T0 R0 H0 w0 (pre++[e]) r (fun k=>S k∨k=e) xh (T.put x.dst v) H' R' (a.put o.dst v') w':=by
 have hni:=pO hR hI.sched
 have hdi:fF ops e=x.dst:=by rw[qo ho,hco.dst]
 have hne: ∀j ∈ pre,j≠e:=fun j hj h=>hni (h▸hj)
 have Tu: ∀j ∈ pre,EI ops (eY ops.toList []) j (T.put x.dst v) T0=EI ops (eY ops.toList []) j T T0:=fun j hj=>Oa hR (hR.head hI.sched hj).2 hdi v
 have hpre: ∀j,j ∈ pre++[e]→¬ (S j∨j=e)→j ∈ pre∧¬ S j:=fun j hj hs=>by
  rcases List.mem_append.1 hj with h|h
  ·exact⟨h,fun h'=>hs (.inl h')⟩
  ·simp at h;exact absurd (.inr h) hs
 have hmk: ∀j ∈ pre,makes ops xs (T.put x.dst v) T0 j→makes ops xs T T0 j:=by
  rintro j hj ⟨y,h1,h2,h3⟩
  rw[Tu j hj]at h3
  exact⟨y,h1,h2,h3⟩
 refine⟨by rw[hI.sched];simp,?_,?_,?_,hrun,P5,?_,by rw[put_defers];exact hI.defers,?_,?_,?_,hI.ext.trans xk⟩
 ·rintro j (h|rfl)
  ·exact List.mem_append_left _ (hI.sub j h)
  ·simp
 ·rintro j oj hj (h|rfl) q hq hb
  ·exact .inl (hI.closed j oj hj h q hq hb)
  ·have:oj=o:=by rw[ho]at hj;exact(Option.some.inj hj).symm
   subst this
   exact .inl (hr q hq hb)
 ·intro j hj ha
  rcases List.mem_append.1 hj with h|h
  ·exact .inl (hI.acts j h ha)
  ·simp at h;exact .inr h
 ·rw[VG hdi hR,←hco.dst]
  exact(hI.tmps.mono xk.le).put (fun d hd=>hco.lt d (by rw[←hco.dst];exact hd)) hvr
 ·intro d hd
  have:x.dst≠some d:=by rw[←hdi];exact hd e (by simp)
  rw[Dv this]
  exact hI.old d fun j hj=>hd j (List.mem_append_left _ hj)
 ·intro j hj hsj y hy
  obtain⟨h1,VK⟩:=hpre j hj hsj
  obtain⟨u,h2,h3⟩:=hI.pend j h1 VK y hy
  have hd': ∀u,(∀d,y.dst=some d→T d=u)→∀d,y.dst=some d→T.put x.dst v d=u:=by
   intro u hu d hd
   rw[Dv]
   ·exact hu d hd
   ·intro he
    obtain⟨oj,yj,hoj,hyj,hcj⟩:=hR.get (hR.slt j (by rw[hI.sched];exact List.mem_append_left _ h1))
    have hyy:yj=y:=by rw[hy]at hyj;exact(Option.some.inj hyj).symm
    subst hyy
    have h4:fF ops j=some d:=by rw[qo hoj,←hcj.dst];exact hd
    rw[←hdi]at he
    exact hne j h1 (hR.uniq h4 he)
  cases hw:dI (EI ops (eY ops.toList []) j T T0) y.guard with
  |false=>
   rw[hw]at h3
   exact⟨u,hd' u h2,by rw[Tu j h1,hw];exact h3⟩
  |true=>
   rw[hw]at h3
   rcases h3 with⟨h5,h6⟩|⟨h5,obj,mk,h6,h7,h8,h9,h10,h11⟩
   ·obtain⟨u',h12,h13⟩:=hstill j h1 VK y u hy hw h5 h6 h2
    exact⟨u',hd' u' h13,by rw[Tu j h1,hw];exact .inl ⟨h5,h12⟩⟩
   ·refine⟨u,hd' u h2,?_⟩
    rw[Tu j h1,hw]
    refine .inr ⟨h5,obj,mk,h6,h7,by rw[xk.far _ h10 h9];exact h8,fun hd=> ?_,Nat.lt_of_lt_of_le h10 xk.next,h11⟩
    rcases xk.new _ hd with h12|h12
    ·exact h9 h12
    ·omega
 ·intro j hj k hk hsj hsk hmj hmk' he
  obtain⟨h1,h1'⟩:=hpre j hj hsj
  obtain⟨h2,h2'⟩:=hpre k hk hsk
  exact hI.inj j h1 k h2 h1' h2' (hmk j h1 hmj) (hmk k h2 hmk') he
theorem VL (hC:vE P C)(hR:dM P n ops xs σ){e:Nat}{r:List Nat}{o:Oper}(hI:Inv P C n ops xs σ K T0 R0 H0 w0 pre (e::r) S xh T H R a w)(ho:ops[e]? =some o)(hact:rU xs e=true)
 (hr: ∀q ∈ o.after.toList,Region.binds .any q=true→S q.on) {next:Act→World→Prop} {Q:Exit→Act→World→Prop}
 (hn: ∀T' H' R' a' w',Inv P C n ops xs σ K T0 R0 H0 w0 (pre++[e]) r (fun k=>S k∨k=e) xh T' H' R' a' w'→next a' w'):wpOp P ops Q e next a w:=by
 obtain⟨o',x,ho',hx,hco⟩:=hR.get (Array.getElem?_eq_some_iff.1 ho).1
 have:o'=o:=by rw[ho]at ho';exact(Option.some.inj ho').symm
 subst this
 have hni:=pO hR hI.sched
 have hns: ¬ S e:=fun h=>hni (hI.sub e h)
 have hag:=Im (T:=T) (T0:=T0) hR hI.closed ho hr hns
 have qbU:=KW (T:=T) (T0:=T0) hR hI.sched hI.old ho
 have qbb:Agree ops o' T (ES ops S T T0):=fun d hd=>(qbU d hd).trans (hag d hd).symm
 have hxa:acts x=true:=by unfold rU at hact;rw[hx]at hact;exact hact
 have hrun:=hI.run
 simp only[Mj,hx]at hrun
 unfold wpOp
 simp only[ho]
 rw[Dt hI.tmps hco.guard hco.glt,←qbb.guard hco]
 simp only[bM]at hrun
 cases hw:dI T x.guard with
 |false=>
  rw[hw]at hrun
  simp only[Bool.false_eq_true,if_false]
  exact hn _ _ R _ w (P6 hR hI ho hx hco hr (VR.undef R) hI.Eu (Ext.refl _ _ _) hrun fun j hj hsj y u hy hw' hk hi hd=>⟨u,hi,hd⟩)
 |true=>
  rw[hw]at hrun
  simp only[if_true]
  simp only[]at hrun
  rw[qbb.NQ hco]at hrun
  refine .inl (VD hC hI.Eu hI.tmps hco.op hrun fun v v' R' H' w' hk hvr P5 xk=> ?_)
  have hk2:(∀y ∈ Gw xs (eY ops.toList []) pre e,aQ P (T.put x.dst v) H' y)∧bM P C (Mj xs (eY ops.toList []) (pre++[e]) r) K (T.put x.dst v) H':=by
   generalize Gw xs (eY ops.toList []) pre e=st at hk
   cases st with
   |nil=>exact⟨by simp,hk⟩
   |cons y r=>exact⟨EO hk.1,hk.2⟩
  refine hn _ H' R' _ w' (P6 hR hI ho hx hco hr hvr P5 xk hk2.2 ?_)
  intro j hj hsj y u hy hwj hkj hij hdj
  by_cases hl:y.op.looks=true
  ·have hnw:waits (eY ops.toList []) e j=false:=by
    cases h:waits (eY ops.toList []) e j with
    |false=>rfl
    |true=>exact absurd (EM hR.back hI.closed e o' j ho hr h) hsj
   have hmem:y ∈ Gw xs (eY ops.toList []) pre e:=by
    simp only[Gw,hx,hxa,if_true]
    refine List.mem_filterMap.2 ⟨j,hj,?_⟩
    simp only[hy,KE,hl,hnw,Bool.not_false,Bool.and_self,if_true]
   have hst:=hk2.1 y hmem
   obtain⟨oj,yj,hoj,hyj,hcj⟩:=hR.get (hR.slt j (by rw[hI.sched];exact List.mem_append_left _ hj))
   have hyy:yj=y:=by rw[hy]at hyj;exact(Option.some.inj hyj).symm
   subst hyy
   have uA:j≠e:=fun h=>hni (h▸hj)
   have hdi:fF ops e=x.dst:=by rw[qo ho,hco.dst]
   have qbV:NS xs j=true:=by unfold NS;rw[hy];exact hl
   have qaj:Agree ops oj (T.put x.dst v) (EI ops (eY ops.toList []) j (T.put x.dst v) T0):=by
    intro d hd
    by_cases h: ∃k,waits (eY ops.toList []) j k=true∧fF ops k=some d
    ·rw[KU h]
    ·rw[KV h]
     have VM: ∀k,fF ops k≠some d:=by
      intro k hk'
      obtain⟨ok,hok,hdk⟩:=mP hk'
      by_cases qbc:k=j
      ·subst qbc
       have:ok=oj:=by rw[hok]at hoj;exact Option.some.inj hoj
       subst this
       exact hR.own k ok d hok hdk hd
      ·rcases(hR.tmp k j ok oj d qbc hok hoj hdk).2 hd with h1|⟨_,h1⟩
       ·exact h ⟨k,h1,hk'⟩
       ·rw[qbV]at h1;cases h1
     rw[Dv (by rw[←hdi];exact VM e)]
     exact hI.old d fun k _=>VM k
   have Tu:EI ops (eY ops.toList []) j (T.put x.dst v) T0=EI ops (eY ops.toList []) j T T0:=Oa hR (hR.head hI.sched hj).2 hdi v
   unfold aQ at hst
   rw[qaj.guard hcj,Tu,hwj]at hst
   cases Mq:yj.dst with
   |some d=>
    rw[Mq]at hst
    simp only[]at hst
    rw[qaj.bL hcj,Tu]at hst
    refine⟨_,hst,fun d' hd'=> ?_⟩
    injection hd' with hd'
    subst hd'
    rw[Dv]
    intro he
    have h4:fF ops j=some d:=by rw[qo hoj,←hcj.dst];exact Mq
    rw[←hdi]at he
    exact uA (hR.uniq h4 he)
   |none=>
    rw[Mq]at hst
    simp only[]at hst
    rw[qaj.bL hcj,Tu]at hst
    obtain⟨u',hu'⟩:=Option.isSome_iff_exists.1 hst
    exact⟨u',hu',by simp⟩
  ·exact⟨u,by rw[N9 (H':=H) (by simpa using hl)];exact hij,hdj⟩
end
end
section
theorem GA: ∀(n:Nat) (l:List Nat),l.Nodup→(∀i ∈ l,i<n)→l.length≤n
 |0,l,_,h=>by
  cases l with
  |nil=>simp
  |cons a l=>exact absurd (h a (by simp)) (by omega)
 |n+1,l,hd,h=>by
  have h1:(l.erase n).length≤n:=by
   refine GA n (l.erase n) (hd.erase n) fun i hi=> ?_
   have h2:=h i (List.mem_of_mem_erase hi)
   have h3:i≠n:=by
    rintro rfl
    exact(hd.mem_erase_iff.1 hi).1 rfl
   omega
  have h2:=List.length_erase (a:=n) (l:=l)
  split at h2 <;> omega
section
variable {P:Program} {C:bS} {n:Nat} {ops:Array Oper} {xs:List aN} {σ:List Nat}
theorem dM.mem (h:dM P n ops xs σ){i:Nat}(hi:i<ops.size):i ∈ σ:=by
 by_cases hm:i ∈ σ
 ·exact hm
 ·have:=GA ops.size (i::σ) (List.nodup_cons.2 ⟨hm,h.nodup⟩) (by
   intro j hj
   rcases List.mem_cons.1 hj with rfl|hj
   ·exact hi
   ·exact h.slt j hj)
  rw[List.length_cons,h.qbS]at this
  omega
theorem dM.of {ops:Array Oper}(hc:iA P n ops ops.toList=some xs)(h:RF ops xs (eY ops.toList []) σ=true):dM P n ops xs σ:=by
 obtain⟨h1,h2⟩:=C9 hc
 unfold RF at h
 simp only[Bool.and_eq_true,decide_eq_true_eq]at h
 obtain⟨⟨⟨⟨⟨⟨hb,hl⟩,hnd⟩,hlt⟩,ho⟩,ht⟩,hw⟩:=h
 refine⟨?_,by simpa using h1,hb,hl,hnd,fun i hi=>by simpa using List.all_eq_true.1 hlt i hi,ho,?_,?_⟩
 ·intro i o hi
  obtain⟨x,hx,hco⟩:=h2 i o (by simpa using hi)
  exact⟨x,hx,Mt hco⟩
 ·intro i j oi oj d hne hi hj hd
  have hil:=(Array.getElem?_eq_some_iff.1 hi).1
  have hjl:=(Array.getElem?_eq_some_iff.1 hj).1
  unfold ZP at ht
  have h3:=List.all_eq_true.1 (List.all_eq_true.1 ht i (List.mem_range.2 hil)) j (List.mem_range.2 hjl)
  rw[hi,hj]at h3
  simp only[hd,Bool.or_eq_true,Bool.and_eq_true,beq_iff_eq,hne,false_or,bne_iff_ne,Bool.not_eq_true']at h3
  refine⟨h3.1,fun hr=> ?_⟩
  rcases h3.2 with (h4|h4)|h4
  ·rw[List.contains_eq_mem]at h4
   simp at h4
   exact absurd hr h4
  ·exact .inl h4
  ·exact .inr h4
 ·intro i o d hi hd hr
  unfold ZQ at hw
  have hm:o ∈ ops.toList:=by
   have:=Array.getElem?_eq_some_iff.1 hi
   obtain⟨hil,rfl⟩:=this
   simp
  have h3:=List.all_eq_true.1 hw o hm
  simp only[hd,Bool.not_eq_true']at h3
  rw[List.contains_eq_mem]at h3
  simp at h3
  exact h3 hr
variable {K:Env→aa→Prop} {T0:Env} {R0:Ren} {H0:aa} {w0:World}
theorem Da: ∀{os:List Oper} {k i:Nat} {o:Oper},iB os k=true→os[i]? =some o→∀e ∈ o.after.toList,Region.binds .any e=true→e.on<k+i
 |[],k,i,o,_,h=>by simp at h
 |x::os,k,i,o,hb,h=>by
  simp only[iB,Bool.and_eq_true]at hb
  cases i with
  |zero=>
   simp at h;subst h
   intro e he hbe
   have:=List.all_eq_true.1 hb.1 e he
   simp only[hbe,Bool.not_true,Bool.false_or,decide_eq_true_eq]at this
   omega
  |succ i=>
   intro e he hbe
   have:=Da (k:=k+1) (i:=i) hb.2 (by simpa using h) e he hbe
   omega
theorem VO (hC:vE P C)(hR:dM P n ops xs σ){Q:Exit→Act→World→Prop}
 (hK: ∀T' H' R' a' w',K T' H'→jC R' H' w'→kY n R' T' a'.tmps→a'.defers=[]→Ext R0 H0 w0 R' H' w'→Q .normal a' w'):
 ∀(fuel:Nat) (listed:Array Bool) (pre rest:List Nat) (S:Nat→Prop) (xh:Nat→Nat) (T:Env) (H:aa) (R:Ren) (a:Act) (w:World),
  Inv P C n ops xs σ K T0 R0 H0 w0 pre rest S xh T H R a w→(∀i r,rest=i::r→rU xs i=true)→(∀i,listed.getD i false=true↔S i)→listed.size=ops.size →
  (∀l:List Nat,l.Nodup→(∀i ∈ l,i<ops.size∧¬ S i)→l.length≤fuel)→wpAny P .any ops Q fuel listed a w:=by
 intro fuel
 induction fuel with
 |zero=>
  intro listed pre rest S xh T H R a w hI hhd hS hsz hf
  have hall: ∀i,i<ops.size→S i:=fun i hi=>Classical.byContradiction fun hn=>by
   have:=hf [i] (by simp) (by simp[hi,hn])
   simp at this
  constructor
  ·cases hrd:Region.ready .any ops listed with
   |nil=>rfl
   |cons i l=>
    have:i ∈ Region.ready .any ops listed:=by rw[hrd];simp
    obtain⟨h0,o,ho,_⟩:=mem_ready.1 this
    have hlt:=(Array.getElem?_eq_some_iff.1 ho).1
    have:=(hS i).2 (hall i hlt)
    have hi:i<listed.size:=by omega
    simp[hi]at h0 this
    rw[h0]at this;cases this
  ·have hrest:rest=[]:=by
    cases rest with
    |nil=>rfl
    |cons e r=>
     have:=pO hR hI.sched
     exact absurd (hI.sub e (hall e (hR.slt e (by rw[hI.sched];simp)))) this
   subst hrest
   have hES:ES ops S T T0=T:=by
    funext d
    by_cases h: ∃i,S i∧fF ops i=some d
    ·rw[uz h]
    ·rw[xg h]
     refine(hI.old d fun i hi hd=>h ⟨i,?_,hd⟩).symm
     obtain⟨o,ho,_⟩:=mP hd
     exact hall i (Array.getElem?_eq_some_iff.1 ho).1
   have hrun:=hI.run
   simp only[Mj,bM]at hrun
   have ht:=hI.tmps
   rw[hES]at ht
   exact hK T H R a w hrun hI.Eu ht hI.defers hI.ext
 |succ fuel ih=>
  intro listed pre rest S xh T H R a w hI hhd hS hsz hf
  have hget: ∀i,i<ops.size→(listed.getD i true=false↔¬ S i):=by
   intro i hi
   have h1:=hS i
   have hi:i<listed.size:=by omega
   simp[hi]at h1 ⊢
   rw[←h1];simp
  constructor
  ·intro hnil
   have hall: ∀i,i<ops.size→S i:=by
    intro i
    induction i using Nat.strongRecOn with
    |_ i ihi=>
     intro hi
     refine Classical.byContradiction fun hn=> ?_
     have:i ∈ Region.ready .any ops listed:=by
      rw[mem_ready]
      refine⟨(hget i hi).2 hn,ops[i],by simp[hi],fun e he hb=> ?_⟩
      have hlt:=Da hR.back (i:=i) (o:=ops[i]) (by simp[hi]) e (by simpa using he) hb
      exact(hS e.on).2 (ihi e.on (by omega) (by omega))
     rw[hnil]at this;simp at this
   have hrest:rest=[]:=by
    cases rest with
    |nil=>rfl
    |cons e r=>
     have:=pO hR hI.sched
     exact absurd (hI.sub e (hall e (hR.slt e (by rw[hI.sched];simp)))) this
   subst hrest
   have hES:ES ops S T T0=T:=by
    funext d
    by_cases h: ∃i,S i∧fF ops i=some d
    ·rw[uz h]
    ·rw[xg h]
     refine(hI.old d fun i hi hd=>h ⟨i,?_,hd⟩).symm
     obtain⟨o,ho,_⟩:=mP hd
     exact hall i (Array.getElem?_eq_some_iff.1 ho).1
   have hrun:=hI.run
   simp only[Mj,bM]at hrun
   have ht:=hI.tmps
   rw[hES]at ht
   exact hK T H R a w hrun hI.Eu ht hI.defers hI.ext
  ·intro i hi
   obtain⟨h0,o,ho,hed⟩:=mem_ready.1 hi
   have hil:=(Array.getElem?_eq_some_iff.1 ho).1
   have hns: ¬ S i:=(hget i hil).1 h0
   have hr: ∀e ∈ o.after.toList,Region.binds .any e=true→S e.on:=fun e he hb=>(hS e.on).1 (hed e (by simpa using he) hb)
   have hS': ∀k,(listed.setIfInBounds i true).getD k false=true↔(S k∨k=i):=by
    intro k
    by_cases hk:k=i
    ·subst hk
     have:k<listed.size:=by omega
     simp[this]
    ·rw[getD_set_ne false (fun h=>hk h.symm),hS k]
     simp[hk]
   have hsz':(listed.setIfInBounds i true).size=ops.size:=by simp[hsz]
   have hf': ∀l:List Nat,l.Nodup→(∀k ∈ l,k<ops.size∧¬ (S k∨k=i))→l.length≤fuel:=by
    intro l hl hh
    have:=hf (i::l) (List.nodup_cons.2 ⟨fun hm=>(hh i hm).2 (.inr rfl),hl⟩) (by
     intro k hk
     rcases List.mem_cons.1 hk with rfl|hk
     ·exact⟨hil,hns⟩
     ·exact⟨(hh k hk).1,fun h=>(hh k hk).2 (.inl h)⟩)
    simpa using this
   by_cases hp:i ∈ pre
   ·exact Ug hR hI hp hns ho hr fun R' a' w' hI'=>ih _ pre rest _ xh T H R' a' w' hI' hhd hS' hsz' hf'
   ·have hmem:i ∈ pre++rest:=by rw[←hI.sched];exact hR.mem hil
    have hmem:i ∈ rest:=(List.mem_append.1 hmem).resolve_left hp
    cases rest with
    |nil=>simp at hmem
    |cons e r=>
     have he:i=e:=by
      rcases List.mem_cons.1 hmem with h|h
      ·exact h
      ·exfalso
       obtain⟨r1,r2,qbW⟩:=List.append_of_mem h
       have hs2:σ=(pre++e::r1)++i::r2:=by rw[hI.sched,qbW];simp
       have h3:=(hR.head hs2 (j:=e) (by simp)).1 (hhd e r rfl)
       have h4:=EM hR.back hI.closed i o e ho hr h3
       exact pO hR hI.sched (hI.sub e h4)
     subst he
     refine VL hC hR hI ho (hhd i r rfl) hr fun T' H' R' a' w' hI'=> ?_
     obtain⟨qak,VP,qal,T2,H2,hI2,qam⟩:=advance hR _ _ _ _ _ hI'
     exact ih _ qak VP _ qal T2 H2 R' a' w' hI2 qam hS' hsz' hf'
theorem VQ (hm:P.follows .mixedOrders=true)(hC:vE P C){id:Nat}{l:List (aN×List aN)}{Q:Exit→Act→World→Prop}{R:Ren}{H:aa}{T:Env}{a:Act}{w:World}
 (hc:KG P n ops=some l) (h:bM P C l K T H) (hS:jC R H w) (hT:kY n R T a.tmps) (hd:a.defers=[])
 (hK: ∀T' H' R' a' w',K T' H'→jC R' H' w'→kY n R' T' a'.tmps→a'.defers=[]→Ext R H w R' H' w'→Q .normal a' w'):(Code.region id ops true).wp P Q a w:=by
 unfold KG at hc
 split at hc
 case h_2=>cases hc
 rename_i xs hxs
 simp only[]at hc
 split at hc
 case isFalse=>cases hc
 rename_i hok
 injection hc with hc
 subst hc
 have hR:=dM.of hxs hok
 refine wp_region_any hm ?_
 have hI0:Inv P C n ops xs (NR ops.toList xs ops.size []) K T R H {w with drawn:=w.drawn+1} [] (NR ops.toList xs ops.size []) (fun _=>False) (fun _=>0) T H R a {w with drawn:=w.drawn+1}:=by
  refine⟨rfl,fun _ h=>h.elim,fun _ _ _ h=>h.elim,fun _ h=>by simp at h,h,hS.drawn _,?_,hd,fun _ _=>rfl,fun _ h=>by simp at h,fun _ h=>by simp at h,Ext.refl _ _ _⟩
  have:ES ops (fun _=>False) T T=T:=by
   funext d;unfold ES;split <;> rfl
  rw[this];exact hT
 obtain⟨qak,VP,qal,T2,H2,hI2,qam⟩:=advance hR _ _ _ _ _ hI0
 refine VO hC hR (fun T' H' R' a' w' k1 k2 k3 k4 k5=>hK T' H' R' a' w' k1 k2 k3 k4 k5.drawn) ops.size _ qak VP _ qal T2 H2 R a _ hI2 qam ?_ (by simp) ?_
 ·intro i
  by_cases h:i<ops.size <;> simp[h]
 ·intro l hl hh
  exact GA ops.size l hl fun i hi=>(hh i hi).1
end
end
section
section
variable {P:Program} {C:bS}
theorem VT (hm:P.follows .mixedOrders=true)(hC:vE P C){n:Nat}: ∀(c:Code) (ic:qR) (Qi:Exit→Env→aa→Prop) (Q:Exit→Act→World→Prop) (R:Ren) (H:aa) (T:Env) (a:Act) (w:World),
 comp P n c=some ic→AQ P C ic Qi T H→jC R H w→kY n R T a.tmps→a.defers=[] →
 (∀e T' H' R' a' w',Qi e T' H'→jC R' H' w'→kY n R' T' a'.tmps→a'.defers=[]→Ext R H w R' H' w'→Q e a' w')→c.wp P Q a w:=by
 intro c
 induction c with
 |skip=>
  intro ic Qi Q R H T a w hc h hS hT hd hQ
  simp only[comp,Option.some.injEq]at hc;subst hc
  exact wp_skip (hQ .normal T H R a w h hS hT hd (Ext.refl _ _ _))
 |region id ops draw=>
  intro ic Qi Q R H T a w hc h hS hT hd hQ
  cases draw with
  |false=>
   simp only[comp,Option.map_eq_some_iff]at hc
   obtain⟨xs,hxs,rfl⟩:=hc
   exact wp_region_list (N8 hC ops.toList xs R H T a w hxs h hS hT hd fun T' H' R' a' w' k1 k2 k3 k4 k5=>hQ .normal T' H' R' a' w' k1 k2 k3 k4 k5)
  |true=>
   simp only[comp,Option.map_eq_some_iff]at hc
   obtain⟨l,hl,rfl⟩:=hc
   exact VQ hm hC hl h hS hT hd fun T' H' R' a' w' k1 k2 k3 k4 k5=>hQ .normal T' H' R' a' w' k1 k2 k3 k4 k5
 |seq x y ihx ihy=>
  intro ic Qi Q R H T a w hc h hS hT hd hQ
  simp only[comp]at hc
  split at hc
  case h_2=>cases hc
  rename_i ix iy hx hy
  injection hc with hc;subst hc
  refine wp_seq (ihx ix _ _ R H T a w hx h hS hT hd fun e T' H' R' a' w' k1 k2 k3 k4 k5=> ?_)
  cases e with
  |normal=>exact ihy iy _ _ R' H' T' a' w' hy k1 k2 k3 k4 fun e T2 H2 R2 a2 w2 q1 q2 q3 q4 q5=>hQ e T2 H2 R2 a2 w2 q1 q2 q3 q4 (k5.trans q5)
  |_=>exact hQ _ T' H' R' a' w' k1 k2 k3 k4 k5
 |cond co x y ihx ihy=>
  intro ic Qi Q R H T a w hc h hS hT hd hQ
  simp only[comp]at hc
  split at hc
  case isFalse=>cases hc
  rename_i hok
  split at hc
  case h_2=>cases hc
  rename_i ix iy hx hy
  injection hc with hc;subst hc
  simp only[AQ]at h
  have hr:=bz hT hok
  split at h
  ·rename_i he
   rw[he]at hr
   exact wp_cond_true hr.KJ (ihx ix _ _ R H T a w hx h hS hT hd hQ)
  ·rename_i he
   rw[he]at hr
   exact wp_cond_false hr.KJ (ihy iy _ _ R H T a w hy h hS hT hd hQ)
  ·exact h.elim
 |block id x ih=>
  intro ic Qi Q R H T a w hc h hS hT hd hQ
  simp only[comp,Option.map_eq_some_iff]at hc
  obtain⟨ix,hx,rfl⟩:=hc
  refine wp_block (ih ix _ _ R H T a w hx h hS hT hd fun e T' H' R' a' w' k1 k2 k3 k4 k5=> ?_)
  cases e with
  |exit id'=>
   simp only[Dk]at k1
   simp only[Exit.inBlock]
   split
   ·rename_i he;rw[if_pos he]at k1;exact hQ _ T' H' R' a' w' k1 k2 k3 k4 k5
   ·rename_i he;rw[if_neg he]at k1;exact hQ _ T' H' R' a' w' k1 k2 k3 k4 k5
  |_=>exact hQ _ T' H' R' a' w' k1 k2 k3 k4 k5
 |loop x ih=>
  intro ic Qi Q R H T a w hc h hS hT hd hQ
  simp only[comp,Option.map_eq_some_iff]at hc
  obtain⟨ix,hx,rfl⟩:=hc
  have key:=h (fun T' H'=> ∀R' a' w',jC R' H' w'→kY n R' T' a'.tmps→a'.defers=[]→Ext R H w R' H' w'→∀b k cs,∃e a2 w2,Q e a2 w2∧Arrives P (lone (b.at a' (.code x :: .inLoop x::k)) cs w') b k cs e a2 w2) ?_
  ·intro b k cs
   obtain⟨e,a2,w2,hq,harr⟩:=key R a w hS hT hd (Ext.refl _ _ _) b k cs
   exact⟨e,a2,w2,hq,.of_steps (.one step_loop) harr⟩
  ·intro T' H' hb R' a' w' hS' hT' hd' hE b k cs
   have hw:=ih ix _ (Exit.then (fun a2 w2=> ∀b k cs,∃e a3 w3,Q e a3 w3∧Arrives P (lone (b.at a2 (.code x :: .inLoop x::k)) cs w2) b k cs e a3 w3) Q) R' H' T' a' w' hx hb hS' hT' hd'
    (fun e T2 H2 R2 a2 w2 q1 q2 q3 q4 q5=>by
      cases e with
      |normal=>exact q1 R2 a2 w2 q2 q3 q4 (hE.trans q5)
      |_=>exact hQ _ T2 H2 R2 a2 w2 q1 q2 q3 q4 (hE.trans q5))
   obtain⟨e,a₁,w₁,hq,harr⟩:=hw b (.inLoop x::k) cs
   cases e with
   |normal=>
    obtain⟨e₂,a₂,w₂,hq₂,harr₂⟩:=hq b k cs
    exact⟨e₂,a₂,w₂,hq₂,.of_steps (Steps.trans harr (.one step_inLoop)) harr₂⟩
   |exit id=>exact⟨_,a₁,w₁,hq,.pass (x:=.inLoop x) rfl (fun _ _=>.inl (by simp)) harr⟩
   |goto l=>exact⟨_,a₁,w₁,hq,.pass (x:=.inLoop x) rfl (fun _ _=>.inl (by simp)) harr⟩
   |ret=>exact⟨_,a₁,w₁,hq,.pass (x:=.inLoop x) rfl (fun _ _=>.inl (by simp)) harr⟩
   |panic ch=>exact⟨_,a₁,w₁,hq,.pass (x:=.inLoop x) rfl (fun _ _=>.inl (by simp)) harr⟩
   |outgrown=>exact⟨_,a₁,w₁,hq,.pass (x:=.inLoop x) rfl (fun _ _=>.inl (by simp)) harr⟩
 |exit id=>
  intro ic Qi Q R H T a w hc h hS hT hd hQ
  simp only[comp,Option.some.injEq]at hc;subst hc
  exact wp_exit (hQ _ T H R a w h hS hT hd (Ext.refl _ _ _))
 |ret=>
  intro ic Qi Q R H T a w hc h hS hT hd hQ
  simp only[comp,Option.some.injEq]at hc;subst hc
  exact wp_ret (hQ _ T H R a w h hS hT hd (Ext.refl _ _ _))
 |_=>
  intro ic Qi Q R H T a w hc h hS hT hd hQ
  simp[comp]at hc
def Dw (tmps:Array Value):ResultVar→Sem Value
 | .tmp t=>pure (tmps.getD t undef)
 | .cell a t=>do loadVar t (←asAddr (tmps.getD a undef))
theorem P7 {R:Ren}{H:aa}{w:World}{n:Nat}{T:Env}{tmps:Array Value}(hS:jC R H w)(hT:kY n R T tmps): ∀(rs:List ResultVar) (is:List II) (l:List Value),qa P rs=some is→bA T H is=some l →
 ∃l',(rs.mapM (Dw tmps)).run P w = .ok l' w∧fE R l l'
 |[],is,l,hc,h=>by
  simp only[qa,Option.some.injEq]at hc;subst hc
  simp only[bA,Option.some.injEq]at h;subst h
  exact⟨[],by simp,.nil⟩
 |r::rs,is,l,hc,h=>by
  have fin: ∀(i:II) (is':List II),qa P rs=some is'→bA T H (i::is')=some l→(∀v,bE T H i=some v→∃v',(Dw tmps r).run P w = .ok v' w∧VR R v v') →
   ∃l',((r::rs).mapM (Dw tmps)).run P w = .ok l' w∧fE R l l':=by
   intro i is' hc' h' h1
   simp only[bA]at h'
   split at h'
   case h_2=>cases h'
   rename_i v hv
   cases hl:bA T H is' with
   |none=>rw[hl]at h';simp at h'
   |some l2=>
    rw[hl]at h'
    simp only[Option.map_some,Option.some.injEq]at h'
    subst h'
    obtain⟨v',h2,h3⟩:=h1 v hv
    obtain⟨l2',h4,h5⟩:=P7 hS hT rs is' l2 hc' hl
    refine⟨v'::l2',?_,.cons h3 h5⟩
    rw[List.mapM_cons]
    simp[h2,h4]
  cases r with
  |tmp t=>
   simp only[qa,Option.map_eq_some_iff]at hc
   obtain⟨is',hc',rfl⟩:=hc
   refine fin _ is' hc' h fun v hv=> ?_
   simp only[bE,Option.some.injEq]at hv
   subst hv
   exact⟨tmps.getD t undef,by simp[Dw],hT.get t⟩
  |cell ad t=>
   simp only[qa]at hc
   split at hc
   ·rename_i m hag hsz
    simp only[Option.map_eq_some_iff]at hc
    obtain⟨is',hc',rfl⟩:=hc
    refine fin _ is' hc' h fun v hv=> ?_
    simp only[bE]at hv
    split at hv
    case h_2=>cases hv
    rename_i b o he
    have hr:=hT.get ad
    rw[he]at hr
    obtain⟨hx,hb⟩:=hr.qc
    simp only[Option.map_eq_some_iff]at hv
    obtain⟨l3,hl,rfl⟩:=hv
    obtain⟨arr,e,fr,hw,hle,hv⟩:=hS.aP hb hl
    refine⟨_,?_,.agg _ _ (by simpa using hv)⟩
    simp only[Dw,hx,asAddr,pure_bind]
    exact EC hag hsz hw hle
   ·rename_i m hag hsz
    simp only[Option.map_eq_some_iff]at hc
    obtain⟨is',hc',rfl⟩:=hc
    refine fin _ is' hc' h fun v hv=> ?_
    simp only[bE]at hv
    split at hv
    case h_2=>cases hv
    rename_i b o he
    have hr:=hT.get ad
    rw[he]at hr
    obtain⟨hx,hb⟩:=hr.qc
    obtain⟨arr,e,fr,v',hw,hv',hr'⟩:=hS.ah hb hv
    refine⟨v',?_,hr'⟩
    simp only[Dw,hx,asAddr,pure_bind]
    exact ED hag hw hv'
   ·cases hc
theorem R7 (fn:Func)(tmps:Array Value):results fn tmps=(fn.results.mapM (Dw tmps)) >>= fun vs=>pure (if h:vs.size=1 then vs[0]else .tuple vs):=by
 unfold results
 congr 1
theorem XR {R:Ren}{H:aa}{w:World}{n:Nat}{T:Env}{tmps:Array Value}(hS:jC R H w)(hT:kY n R T tmps){fn:Func}{is:List II}{v:Value}(hc:qa P fn.results.toList=some is)(h:dZ T H is=some v):
 ∃v',(results fn tmps).run P w = .ok v' w∧VR R v v':=by
 unfold dZ at h
 have hr: ∀l,bA T H is=some l→∃l',(results fn tmps).run P w = .ok (if h:l'.toArray.size=1 then l'.toArray[0]else .tuple l'.toArray) w∧fE R l l':=by
  intro l hl
  obtain⟨l',h1,h2⟩:=P7 hS hT fn.results.toList is l hc hl
  refine⟨l',?_,h2⟩
  rw[R7,Array.mapM_eq_mapM_toList]
  simp[h1]
 split at h
 ·rename_i u hl
  injection h with h;subst h
  obtain⟨l',h1,h2⟩:=hr _ hl
  cases h2 with
  |cons h3 h4=>cases h4;exact⟨_,h1,by simpa using h3⟩
 ·rename_i l hne hl
  injection h with h;subst h
  obtain⟨l',h1,h2⟩:=hr _ hl
  refine⟨_,h1,?_⟩
  have hln:=h2.length
  have:l'.toArray.size≠1:=by
   intro h5
   have h6:l.length=1:=by simpa[←hln]using h5
   match l,h6 with
   |[x],_=>exact hne x rfl
  rw[dif_neg this]
  exact .tuple _ _ (by simpa using h2)
 ·cases h
theorem VU (hm:P.follows .mixedOrders=true){IP:FuncId→Option aA}{X:bS}(hIP: ∀f g,IP f=some g→vg P f=some g)(hX:vE P X):vE P (jr P IP X):=by
 intro f args H K h
 refine h (fun f args H K=>RZ P f args H K) ?_
 intro f args H K hh
 rcases hh with hh|⟨g,hg,hbody⟩
 ·exact hX f args H K hh
 ·have hcf:=hIP f g hg
  unfold vg at hcf
  split at hcf
  case h_2=>cases hcf
  rename_i fn hfn
  split at hcf
  case h_2=>cases hcf
  rename_i c hc hname
  split at hcf
  case h_2=>cases hcf
  rename_i b r hb hr
  injection hcf with hcf
  subst hcf
  refine .inl ⟨?_,?_⟩
  ·intro as w
   have hname: ¬ fn.name = "runtime.NumGoroutine" :=by simpa using hname
   simp[callFunc,hfn,hname,hc]
  ·intro R w args' hS hA
   obtain⟨hle,hwp⟩:=hbody
   have hlen:=hA.length
   refine calls_of_wp hfn hc ?_
   refine VT (n:=fn.ntmps) hm (C:=fun f args H K=>RZ P f args H K) (fun _ _ _ _ h=>h) c b _ _ R H _ _ w hb hwp hS ?_ rfl ?_
   ·simp only at hle
    refine⟨by simp at hlen ⊢;omega,fun t=> ?_⟩
    unfold Tk
    have: ∀(l:List Value) (l':List Value),fE R l l'→∀t,VR R (l.getD t undef) (l'.getD t undef):=by
     intro l l' hl t
     cases hg:l[t]? with
     |none=>
      have:l'[t]? =none:=by rw[List.getElem?_eq_none_iff]at hg ⊢;rw[←hl.length];exact hg
      simp[List.getD,hg,this];exact VR.undef R
     |some v=>
      obtain⟨v',hv',hr⟩:=hl.get t v hg
      simp[List.getD,hg,hv'];exact hr
    have h3:=this _ _ hA t
    by_cases ht:t<args'.size
    ·have:(args'++Array.replicate (fn.ntmps-args'.size) undef).getD t undef=args'.toList.getD t undef:=by
      simp[Array.getD,List.getD,ht,Array.getElem?_append,show t<args'.size+(fn.ntmps-args'.size)by omega]
     rw[this];exact h3
    ·have e1:args'.toList.getD t undef=undef:=by simp[List.getD,ht]
     rw[e1]at h3
     have:(args'++Array.replicate (fn.ntmps-args'.size) undef).getD t undef=undef:=by
      simp[Array.getElem?_append,ht]
      by_cases h5:t-args'.size<fn.ntmps-args'.size <;> simp[h5]
     rw[this];exact h3
   ·intro e T' H' R' a' w' k1 k2 k3 k4 k5
    have fin:(∃v,dZ T' H' r=some v∧K v H')→a'.defers=[]∧∃v,(results fn a'.tmps).run P w' = .ok v w'∧KT K R H w (.returned v) w':=by
     rintro⟨v,h1,h2⟩
     obtain⟨v',h3,h4⟩:=XR k2 k3 hr h1
     exact⟨k4,v',h3,v,v',R',H',rfl,h2,h4,k2,k5⟩
    cases e with
    |normal=>exact fin k1
    |ret=>exact fin k1
    |_=>exact k1.elim
end
end
section
def EP (P:Program)(K:TypeId→Option (List KS)):List Field→Nat→Option (List KS)
 |[],_=>some []
 |f::fs,off=>match K f.type with
  |some r=>
   if f.name ≠ "_" ∧f.offset=off∧((qH P f.type=some true∧bq P f.type=some r.length)∨(qH P f.type=some false∧r.length=1))then (EP P K fs (off+r.length)).map (r ++ ·)else none
  |none=>none
def zf (P:Program):Nat→TypeId→Option (List KS)
 |0,_=>none
 |n+1,t=>match P.underlying t with
  |some .bool=>some [.b]
  |some (.int k)=>some [.i k]
  |some .string=>some [.s]
  |some (.struct fs)=>if P.stoodInHeld t=true then none else EP P (zf P n) fs.toList 0
  |_=>none
def KZ (P:Program):bZ→bZ
 | .raw (.binOp op t x y yt) ty=>match P.underlying t with
   |some (.int _)|some .string=>.bin op x y
   |some .bool=>match op with
    | .eql=>.eqv false [] x y
    | .neq=>.eqv true [] x y
    |_=>.raw (.binOp op t x y yt) ty
   |some (.struct _)=>match zf P 20 t,P.eqGuardType P.depth t,op with
    |some (k::sh),false,.eql=>.eqv false (k::sh) x y
    |some (k::sh),false,.neq=>.eqv true (k::sh) x y
    |_,_,_=>.raw (.binOp op t x y yt) ty
   |_=>.raw (.binOp op t x y yt) ty
 | .raw (.unOp op _ x) _=>.un op x
 | .raw (.convert s d x) ty=>match P.underlying s,P.underlying d with
   |some (.int _),some (.int k)=>.conv k x
   |_,_=>.raw (.convert s d x) ty
 | .raw (.call ⟨.builtin b,args,tys⟩) ty=>match b,args.toList,tys.toList with
   | .len,[x],[t]=>match P.underlying t with
     |some .string=>.pI x
     |_=>.raw (.call ⟨.builtin b,args,tys⟩) ty
   | .max,[x,y],_=>.PK true x y
   | .min,[x,y],_=>.PK false x y
   |_,_,_=>.raw (.call ⟨.builtin b,args,tys⟩) ty
 | .raw (.index t x i) ty=>match P.underlying t with
   |some .string=>.NN x i
   |_=>.raw (.index t x i) ty
 | .raw (.slice t x lo hi none) ty=>match P.underlying t with
   |some .string=>.PL x lo hi
   |_=>.raw (.slice t x lo hi none) ty
 | .raw (.panic _) _=>.never
 |o=>o
theorem aH {α:Type}{P:Program}{s:Sem α}{a:α}(h:aB P s=some a){β:Type}(f:α→Sem β):aB P (s >>= f)=aB P (f a):=by rw[aM,h];rfl
section
variable {P:Program} {T:Env} {H:aa}
theorem qI {o:Op}{ty:TypeId}{v:Value}(ho: ∀x ∈ o.operands.toList,lV (ev T x)=true)(hr:aB P (execOp (ev T) ⟨none,o,ty, "",#[],none⟩)=some (.value v))(hv:lV v=true):
 bL P T H (.raw o ty)=some v:=by
 have hall:o.operands.toList.all (fun x=>lV (ev T x))=true:=List.all_eq_true.2 ho
 simp only[bL,hall,if_true,hr,hv]
theorem VV (a b:ByteArray):decide (a.data.toList=b.data.toList)=decide (a=b):=by
 have:(a.data.toList=b.data.toList)↔a=b:=by
  constructor
  ·intro h
   obtain⟨⟨x⟩⟩:=a
   obtain⟨⟨y⟩⟩:=b
   simp at h;rw[h]
  ·rintro rfl;rfl
 simp[this]
theorem R8 (a b:ByteArray):(Value.string (a++b))=NP (a.data.toList++b.data.toList):=by
 unfold NP
 congr 1
theorem M7 {op:BinOp}{t yt ty:TypeId}{x y:Operand}{v:Value}(h:eO op (ev T x) (ev T y)=some v):
 bL P T H (.raw (.binOp op t x y yt) ty)=some v:=by
 generalize hx:ev T x=vx at h
 generalize hy:ev T y=vy at h
 have hs:lV vx=true→lV vy=true→∀z ∈ (Op.binOp op t x y yt).operands.toList,lV (ev T z)=true:=by
  intro h1 h2 z hz
  simp[Op.operands]at hz
  rcases hz with rfl|rfl
  ·rw[hx];exact h1
  ·rw[hy];exact h2
 unfold eO at h
 split at h
 ·rename_i k a k' b
  have hg:aB P (eqGuard op t x y (.int k a) (.int k' b))=some ():=by cases op <;> rfl
  refine qI (hs rfl rfl) ?_ ?_
  ·simp only[execOp,hx,hy]
   rw[aM,aH hg]
   cases op <;> simp only[]at h <;> first
    |(split at h
      ·rename_i hk;subst hk
       simp only[wR,Option.some.injEq]at h
       first
        |(subst h;simp[binOp,Op.intArith,Op.intBits,Op.intCmp,aB,pure,Sem.pure] <;> (first|rfl|(congr 1;simp)|skip);done)
        |(split at h
          ·cases h
          ·rename_i h0;injection h with h;subst h;simp[binOp,Op.intDiv,h0,aB,pure];done)
        |(subst h;simp only[binOp,Op.intArith,Op.intBits,Op.intCmp,ne_eq,not_true_eq_false,if_false];rfl)
      ·cases h)
    |(simp only[Vp]at h
      split at h
      ·cases h
      ·rename_i h0;simp at h;subst h;simp[binOp,Op.shift,h0,aB,pure];done)
  ·cases op <;> simp only[wR,Vp]at h <;> (repeat' split at h) <;> first|(injection h with h;subst h;rfl)|cases h
 ·rename_i a b
  have hg:aB P (eqGuard op t x y (.string a) (.string b))=some ():=by cases op <;> rfl
  refine qI (hs rfl rfl) ?_ ?_
  ·simp only[execOp,hx,hy]
   rw[aM,aH hg]
   have e1:(a.toList == b.toList)=decide (a.data.toList=b.data.toList):=by rw[ByteArray.toList_eq,ByteArray.toList_eq];rw[Bool.eq_iff_iff];simp
   have hb: ∀u,str2 op a.data.toList b.data.toList=some u→aB P (binOp op t (.string a) (.string b))=some u:=by
    intro u hu
    cases op <;> simp only[str2]at hu <;> first
     |(injection hu with hu;subst hu;simp only[binOp,Op.stringOp,e1];simp[ByteArray.toList_eq,aB,pure];done)
     |(split at hu
       ·cases hu
       ·rename_i h0
        injection hu with hu;subst hu
        simp only[binOp,Op.stringOp]
        have h1: ¬ (((a.size+b.size:Nat):Int)>IntKind.i64.max):=by simpa using h0
        rw[if_neg h1,R8];rfl)
     |cases hu
   rw[hb _ h];rfl
  ·cases op <;> simp only[str2]at h <;> (repeat' split at h) <;> first|(injection h with h;subst h;rfl)|cases h
 ·cases h
theorem K3 {neg:Bool}{t yt ty:TypeId}{x y:Operand}{v:Value}(ht:P.underlying t=some .bool)(h:bL P T H (.eqv neg [] x y)=some v):
 bL P T H (.raw (.binOp (if neg then .neq else .eql) t x y yt) ty)=some v:=by
 simp only[bL]at h
 generalize hx:ev T x=vx at h
 generalize hy:ev T y=vy at h
 split at h
 ·simp at h
 ·rename_i a b
  simp at h
  subst h
  refine qI ?_ ?_ rfl
  ·intro z hz
   simp[Op.operands]at hz
   rcases hz with rfl|rfl
   ·rw[hx];rfl
   ·rw[hy];rfl
  ·have he:aB P (Op.equal t (.bool a) (.bool b))=some (a == b):=by
    unfold Op.equal Op.maxDepth
    rw[Op.equalIn,aH (cz ht)]
    rfl
   simp only[execOp,hx,hy]
   cases neg
   ·have hg:aB P (eqGuard .eql t x y (.bool a) (.bool b))=some ():=rfl
    simp only[Bool.false_eq_true,if_false]
    rw[aM,aH hg]
    simp only[binOp]
    rw[aH he]
    simp[aB,pure]
   ·have hg:aB P (eqGuard .neq t x y (.bool a) (.bool b))=some ():=rfl
    simp only[if_true]
    rw[aM,aH hg]
    simp only[binOp]
    rw[aH he]
    simp[aB,pure]
 ·cases h
theorem AU {d:Nat}{t:TypeId}{fs:Array Field}{xs ys:Array Value}(ht:P.underlying t=some (.struct fs))(hp:P.stoodInHeld t=false):
 aB P (Op.equalIn (d+1) t (.agg xs) (.agg ys))=aB P (Op.eqFields d xs ys fs.toList):=by
 simp only[Op.equalIn]
 rw[aH (cz ht)]
 simp only[]
 have hpr:aB P program=some P:=rfl
 rw[aM,hpr]
 simp only[Option.bind_some,hp,Bool.false_eq_true,if_false]
 rw[←Array.forIn_toList]
 generalize fs.toList=l
 clear ht
 induction l with
 |nil=>simp[Op.eqFields,aM,nS]
 |cons f l ih=>
  simp only[List.forIn_cons,Op.eqFields]
  split
  ·simp only[bind_assoc]
   rw[aM,aM]
   congr 1
   funext a
   rw[aM,aM]
   congr 1
   funext b
   rw[aM,aM]
   congr 1
   funext r
   cases r
   ·simp[nS]
   ·simp only[Bool.not_true,Bool.false_eq_true,if_false,pure_bind]
    exact ih
  ·simp only[pure_bind]
   exact ih
theorem qp: ∀{sh:List KS} {l:List Value},bK sh l=true→l.length=sh.length
 |[],[],_=>rfl
 |[],_::_,h=>by simp[bK]at h
 |k::sh,[],h=>by cases k <;> simp[bK]at h
 |k::sh,v::l,h=>by
  have:bK sh l=true:=by
   cases k <;> cases v <;> simp[bK]at h <;> first|exact h|exact h.2
  simp[qp this]
theorem zg: ∀{a b:List KS} {l:List Value},bK (a++b) l=true→∃x y,l=x++y∧bK a x=true∧bK b y=true
 |[],b,l,h=>⟨[],l,rfl,rfl,h⟩
 |k::a,b,[],h=>by cases k <;> simp[bK]at h
 |k::a,b,v::l,h=>by
  have hsub:bK (a++b) l=true∧∀z,bK a z=true→bK (k::a) (v::z)=true:=by
   cases k <;> cases v <;> simp[bK]at h ⊢ <;> first|exact h|exact⟨h.2,fun z hz=>⟨h.1,hz⟩⟩|exact⟨h,fun z hz=>hz⟩
  obtain⟨x,y,rfl,h1,h2⟩:=zg hsub.1
  exact⟨v::x,y,rfl,hsub.2 x h1,h2⟩
theorem K4: ∀{a c b d:List Value},a.length=c.length→jR (a++b) (c++d)=(jR a c&&jR b d)
 |[],[],_,_,_=>by simp[jR]
 |[],_::_,_,_,h=>by simp at h
 |_::_,[],_,_,h=>by simp at h
 |x::a,y::c,b,d,h=>by simp[jR,K4 (a:=a) (c:=c) (by simpa using h),Bool.and_assoc]
theorem qf {t:TypeId}{b:Bool}(h:qH P t=some b):aB P (isAgg t)=some b:=by
 unfold qH at h
 cases hu:P.underlying t with
 |none=>simp[hu]at h
 |some d=>
  unfold isAgg
  rw[aH (cz hu)]
  cases d <;> simp[hu]at h <;> subst h <;> rfl
theorem zh {t:TypeId}{n:Nat}(h:bq P t=some n):aB P (sizeOf t)=some n:=by
 unfold bq at h
 cases hi:P.info? t with
 |none=>simp[hi]at h
 |some i=>
  simp[hi]at h
  unfold sizeOf typeInfo
  simp only[bind_assoc]
  have hpr:aB P program=some P:=rfl
  rw[aM,hpr]
  simp only[Option.bind_some,hi]
  subst h
  rfl
theorem P8: ∀(n:Nat) (t:TypeId) (sh:List KS),zf P n t=some sh→∀D,n≤D→∀cx cy:List Value,bK sh cx=true→bK sh cy=true →
 (qH P t=some true→aB P (Op.equalIn D t (.agg cx.toArray) (.agg cy.toArray))=some (jR cx cy)) ∧
 (qH P t=some false→∀vx vy,cx=[vx]→cy=[vy]→aB P (Op.equalIn D t vx vy)=some (jR cx cy)):=by
 intro n
 induction n with
 |zero=>intro t sh h;simp[zf]at h
 |succ n ih=>
  intro t sh h D hD cx cy hx hy
  obtain⟨d,rfl⟩: ∃d,D=d+1:=⟨D-1,by omega⟩
  simp only[zf]at h
  split at h
  ·rename_i hu
   injection h with h;subst h
   refine⟨fun ha=>by simp[qH,hu]at ha,fun _ vx vy h1 h2=> ?_⟩
   subst h1;subst h2
   cases vx <;> simp[bK]at hx
   cases vy <;> simp[bK]at hy
   simp only[Op.equalIn]
   rw[aH (cz hu)]
   simp[jR,nG,aB,pure]
  ·rename_i k hu
   injection h with h;subst h
   refine⟨fun ha=>by simp[qH,hu]at ha,fun _ vx vy h1 h2=> ?_⟩
   subst h1;subst h2
   cases vx <;> simp[bK]at hx
   cases vy <;> simp[bK]at hy
   subst hx;subst hy
   simp only[Op.equalIn]
   rw[aH (cz hu)]
   simp[jR,nG,aB,pure]
   rfl
  ·rename_i hu
   injection h with h;subst h
   refine⟨fun ha=>by simp[qH,hu]at ha,fun _ vx vy h1 h2=> ?_⟩
   subst h1;subst h2
   cases vx <;> simp[bK]at hx
   cases vy <;> simp[bK]at hy
   rename_i a b
   simp only[Op.equalIn]
   rw[aH (cz hu)]
   have:(a == b)=decide (a=b):=by
    rw[beq_toListBytes,ByteArray.toList_eq,ByteArray.toList_eq,←VV,Bool.eq_iff_iff];simp
   simp[jR,nG,aB,pure,this]
  ·rename_i fs hu
   split at h
   ·cases h
   rename_i hst
   have hst:P.stoodInHeld t=false:=by simpa using hst
   refine⟨fun _=> ?_,fun ha=>by simp[qH,hu]at ha⟩
   rw[AU hu hst]
   have key: ∀(l:List Field) (off:Nat) (s:List KS),EP P (zf P n) l off=some s→∀px py ux uy:List Value,px.length=off→py.length=off→bK s ux=true→bK s uy=true →
    aB P (Op.eqFields d (px++ux).toArray (py++uy).toArray l)=some (jR ux uy):=by
    intro l
    induction l with
    |nil=>
     intro off s hs px py ux uy _ _ h1 h2
     simp only[EP,Option.some.injEq]at hs
     subst hs
     have:=qp h1;have:=qp h2
     cases ux <;> cases uy <;> simp_all [Op.eqFields,jR,nS]
    |cons f l ihl=>
     intro off s hs px py ux uy hpx hpy h1 h2
     simp only[EP]at hs
     split at hs
     case h_2=>cases hs
     rename_i r hr
     split at hs
     case isFalse=>cases hs
     rename_i hcond
     obtain⟨hn,hoff,hag⟩:=hcond
     simp only[Option.map_eq_some_iff]at hs
     obtain⟨s',hs',rfl⟩:=hs
     obtain⟨x1,x2,rfl,k1,k2⟩:=zg h1
     obtain⟨y1,y2,rfl,m1,m2⟩:=zg h2
     have lx:=qp k1
     have ly:=qp m1
     have hrest:=ihl (off+r.length) s' hs' (px++x1) (py++y1) x2 y2 (by simp[hpx,lx]) (by simp[hpy,ly]) k2 m2
     simp only[List.append_assoc]at hrest
     rw[K4 (lx.trans ly.symm)]
     simp only[Op.eqFields,if_pos hn]
     have hk:=ih f.type r hr d (by omega) x1 y1 k1 m1
     have fin: ∀va vb,aB P (part f.type (px++(x1++x2)).toArray f.offset)=some va→aB P (part f.type (py++(y1++y2)).toArray f.offset)=some vb→aB P (Op.equalIn d f.type va vb)=some (jR x1 y1) →
      aB P (part f.type (px++(x1++x2)).toArray f.offset >>= fun a=>part f.type (py++(y1++y2)).toArray f.offset >>= fun b=>Op.equalIn d f.type a b >>= fun r=>if (!r)=true then pure false else Op.eqFields d (px++(x1++x2)).toArray (py++(y1++y2)).toArray l)=some (jR x1 y1&&jR x2 y2):=by
      intro va vb e1 e2 e3
      rw[aH e1,aH e2,aH e3]
      cases jR x1 y1
      ·simp[nS]
      ·simpa using hrest
     rcases hag with⟨ha,hsz⟩|⟨ha,hl1⟩
     ·refine fin (.agg x1.toArray) (.agg y1.toArray) ?_ ?_ (hk.1 ha)
      ·unfold part
       rw[aH (qf ha)]
       simp only[if_true]
       rw[aH (zh hsz),hoff,←hpx,←lx]
       simp[aB,pure]
      ·unfold part
       rw[aH (qf ha)]
       simp only[if_true]
       rw[aH (zh hsz),hoff,←hpy,←ly]
       simp[aB,pure]
     ·match x1,lx,y1,ly with
      |[va],_,[vb],_=>
       refine fin va vb ?_ ?_ (hk.2 ha va vb rfl rfl)
       ·unfold part
        rw[aH (qf ha),hoff,←hpx]
        simp[aB,pure]
       ·unfold part
        rw[aH (qf ha),hoff,←hpy]
        simp[aB,pure]
      |[],l1,_,_=>simp[hl1]at l1
      |_::_::_,l1,_,_=>simp[hl1]at l1
      |[_],_,[],l1=>simp[hl1]at l1
      |[_],_,_::_::_,l1=>simp[hl1]at l1
   exact key fs.toList 0 sh h [] [] cx cy rfl rfl hx hy
  ·cases h
theorem Dx: ∀{sh:List KS} {l:List Value},bK sh l=true→l.all qQ=true
 |[],[],_=>rfl
 |[],_::_,h=>by simp[bK]at h
 |k::sh,[],h=>by cases k <;> simp[bK]at h
 |k::sh,v::l,h=>by
  have:qQ v=true∧bK sh l=true:=by
   cases k <;> cases v <;> simp[bK]at h <;> first|exact⟨rfl,h⟩|exact⟨rfl,h.2⟩
  simp[this.1,Dx this.2]
theorem M8 {neg:Bool}{t yt ty:TypeId}{x y:Operand}{v:Value}{sh:List KS}{fs:Array Field}(hu:P.underlying t=some (.struct fs))(hk:zf P 20 t=some sh)(hg:P.eqGuardType P.depth t=false)(hne:sh≠[])
 (h:bL P T H (.eqv neg sh x y)=some v):bL P T H (.raw (.binOp (if neg then .neq else .eql) t x y yt) ty)=some v:=by
 simp only[bL]at h
 generalize hx:ev T x=vx at h
 generalize hy:ev T y=vy at h
 split at h
 ·rename_i a b
  split at h
  case isFalse=>cases h
  rename_i hc
  injection h with h
  subst h
  refine qI ?_ ?_ rfl
  ·intro z hz
   simp[Op.operands]at hz
   rcases hz with rfl|rfl
   ·rw[hx];exact Dx hc.2.1
   ·rw[hy];exact Dx hc.2.2
  ·have ha:qH P t=some true:=by simp[qH,hu]
   have he:aB P (Op.equal t (.agg a) (.agg b))=some (jR a.toList b.toList):=by
    unfold Op.equal Op.maxDepth
    exact(P8 20 t sh hk 10000 (by omega) a.toList b.toList hc.2.1 hc.2.2).1 ha
   have hgd: ∀op,aB P (eqGuard op t x y (.agg a) (.agg b))=some ():=by
    intro op
    have hpr:aB P program=some P:=rfl
    cases op <;> simp[eqGuard,aM,hpr,hg,nS]
   simp only[execOp,hx,hy]
   cases neg
   ·simp only[Bool.false_eq_true,if_false]
    rw[aM,aH (hgd _)]
    simp only[binOp]
    rw[aH he]
    simp[aB,pure]
   ·simp only[if_true]
    rw[aM,aH (hgd _)]
    simp only[binOp]
    rw[aH he]
    simp[aB,pure]
 ·simp[hne]at h
 ·cases h
theorem VW {op:UnOp}{t ty:TypeId}{x:Operand}{v:Value}(h:bL P T H (.un op x)=some v):bL P T H (.raw (.unOp op t x) ty)=some v:=by
 simp only[bL]at h
 generalize hx:ev T x=vx at h
 unfold nP at h
 have hs:lV vx=true→∀z ∈ (Op.unOp op t x).operands.toList,lV (ev T z)=true:=by
  intro h1 z hz
  simp[Op.operands]at hz
  subst hz;rw[hx];exact h1
 split at h
 ·injection h with h;subst h
  exact qI (hs rfl) (by simp only[execOp,hx];rfl) rfl
 ·injection h with h;subst h
  exact qI (hs rfl) (by simp only[execOp,hx];rfl) rfl
 ·simp only[wR,Option.some.injEq]at h;subst h
  exact qI (hs rfl) (by simp only[execOp,hx];rfl) rfl
 ·cases h
theorem R9 {s d ty:TypeId}{k k0:IntKind}{x:Operand}{v:Value}(hs:P.underlying s=some (.int k0))(hd:P.underlying d=some (.int k))(h:bL P T H (.conv k x)=some v):bL P T H (.raw (.convert s d x) ty)=some v:=by
 simp only[bL]at h
 split at h
 ·rename_i kk n hx
  injection h with h;subst h
  refine qI (by intro z hz;simp[Op.operands]at hz;subst hz;rw[hx];rfl) ?_ rfl
  simp only[execOp,hx,convert]
  rw[aM,aH (cz hs),aH (cz hd)]
  rfl
 ·cases h
theorem Ob {t ty:TypeId}{x:Operand}{args:Array Operand}{tys:Array TypeId}{v:Value}(ht:P.underlying t=some .string)(ha:args.toList=[x])(hy:tys.toList=[t])(h:bL P T H (.pI x)=some v):
 bL P T H (.raw (.call ⟨.builtin .len,args,tys⟩) ty)=some v:=by
 obtain rfl:args = #[x]:=by cases args;simp_all
 obtain rfl:tys = #[t]:=by cases tys;simp_all
 simp only[bL]at h
 split at h
 ·rename_i s hx
  injection h with h;subst h
  refine qI (by intro z hz;simp[Op.operands,Call.operands]at hz;subst hz;rw[hx];rfl) ?_ rfl
  have e:execOp (ev T) ⟨none,.call ⟨.builtin .len,#[x],#[t]⟩,ty, "",#[],none⟩=(do pure (.value (←Builtin.len_ #[t] ty #[ev T x]))):=by
   simp[execOp,resolve,invoke,builtin]
  rw[e,hx]
  unfold Builtin.len_
  rw[aM]
  simp only[List.getElem?_toArray,List.getElem?_cons_zero]
  rw[aH (cz ht)]
  rfl
 ·cases h
theorem M9 {mx:Bool}{ty:TypeId}{x y:Operand}{args:Array Operand}{tys:Array TypeId}{v:Value}(ha:args.toList=[x,y])(h:bL P T H (.PK mx x y)=some v):
 bL P T H (.raw (.call ⟨.builtin (if mx then .max else .min),args,tys⟩) ty)=some v:=by
 obtain rfl:args = #[x,y]:=by cases args;simp_all
 simp only[bL]at h
 split at h
 ·rename_i k a k' b hx hy
  injection h with h;subst h
  refine qI (by intro z hz;simp[Op.operands,Call.operands]at hz;rcases hz with rfl|rfl;rw[hx];rfl;rw[hy];rfl) ?_ rfl
  cases mx
  ·have e:execOp (ev T) ⟨none,.call ⟨.builtin .min,#[x,y],tys⟩,ty, "",#[],none⟩=(do pure (.value (←Builtin.min_ tys ty #[ev T x,ev T y]))):=by
    simp[execOp,resolve,invoke,builtin]
   simp only[Bool.false_eq_true,if_false]
   rw[e,hx,hy];rfl
  ·have e:execOp (ev T) ⟨none,.call ⟨.builtin .max,#[x,y],tys⟩,ty, "",#[],none⟩=(do pure (.value (←Builtin.max_ tys ty #[ev T x,ev T y]))):=by
    simp[execOp,resolve,invoke,builtin]
   simp only[if_true]
   rw[e,hx,hy];rfl
 ·cases h
theorem Oc {t ty:TypeId}{x i:Operand}{v:Value}(ht:P.underlying t=some .string)(h:bL P T H (.NN x i)=some v):bL P T H (.raw (.index t x i) ty)=some v:=by
 simp only[bL]at h
 split at h
 ·rename_i s k j hx hi
  split at h
  ·rename_i hj
   simp only[Option.map_eq_some_iff]at h
   obtain⟨b,hb,rfl⟩:=h
   refine qI (by intro z hz;simp[Op.operands]at hz;rcases hz with rfl|rfl;rw[hx];rfl;rw[hi];rfl) ?_ rfl
   have hb':s[j.toNat]? =some b:=by
    have hlt:j.toNat<s.data.toList.length:=(List.getElem?_eq_some_iff.1 hb).1
    have e:s[j.toNat]? =s.data.toList[j.toNat]? :=by
     simp only[getElem?_def]
     have h1:j.toNat<s.size:=by simpa using hlt
     simp[h1,hlt]
     rfl
    rw[e,hb]
   simp only[execOp,hx,hi,Instr.index]
   have hii:aB P (asIntOf (.int k j))=some (k,j):=rfl
   rw[aM,aH hii]
   simp only[]
   rw[aH (cz ht)]
   simp only[hj,if_true,hb']
   rfl
  ·cases h
 ·cases h
theorem extract_data (s:ByteArray)(l h:Nat):(Value.string (s.extract l h))=NP ((s.data.toList.drop l).take (h-l)):=by
 unfold NP
 congr 1
 apply ByteArray.ext
 rw[ByteArray.data_extract]
 obtain⟨⟨d⟩⟩:=s
 simp
theorem K5 {T:Env}{x:Operand}{n y:Nat}{code:BoundsCode}(h:nL T x=some n)(hy:n≤y):aB P (Instr.sliceBound (ev T x) y code)=some n:=by
 unfold nL at h
 split at h
 ·rename_i k i hx
  split at h
  ·rename_i h0
   injection h with h
   rw[hx]
   unfold Instr.sliceBound
   have hii:aB P (asIntOf (.int k i))=some (k,i):=rfl
   rw[aH hii]
   simp only[]
   rw[if_pos ⟨h0,by omega⟩,h];rfl
  ·cases h
 ·cases h
theorem P9 {t ty:TypeId}{x:Operand}{lo hi:Option Operand}{v:Value}(ht:P.underlying t=some .string)(h:bL P T H (.PL x lo hi)=some v):bL P T H (.raw (.slice t x lo hi none) ty)=some v:=by
 simp only[bL]at h
 split at h
 ·rename_i s hx
  split at h
  ·rename_i l hh m hb
   split at h
   ·rename_i hle
    injection h with h;subst h
    unfold eU at hb
    simp only[Option.isSome_none,Bool.false_eq_true,if_false]at hb
    have XT: ∀y n,nL T y=some n→lV (ev T y)=true:=by
     intro y n hy
     unfold nL at hy
     split at hy
     ·rename_i hq;rw[hq];rfl
     ·cases hy
    have hsize:s.data.toList.length=s.size:=by simp
    rw[hsize]at hb hle
    have hcase: ∀(A B:Option Nat),(match some (none:Option Nat),B,A with|some m,some h,some l=>if l≤h∧h≤m.getD h then some (l,h,m)else none|_,_,_=>none)=some (l,hh,m)→A=some l∧B=some hh∧l≤hh:=by
     intro A B hq
     cases A <;> cases B <;> simp at hq
     obtain⟨h1,h2,h3,_⟩:=hq
     subst h2;subst h3
     exact⟨rfl,rfl,h1⟩
    obtain⟨h1,h2,h3⟩:=hcase _ _ hb
    clear hb
    have hrun:aB P (Instr.slice t (ev T x) (lo.map (ev T)) (hi.map (ev T)) none)=some (.string (s.extract l hh)):=by
     unfold Instr.slice
     rw[hx,aH (cz ht)]
     simp only[Option.isSome_none,Bool.false_eq_true,if_false]
     have hbd:aB P (Instr.sliceBounds false s.size s.size (lo.map (ev T)) (hi.map (ev T)) none)=some (l,hh,s.size):=by
      unfold Instr.sliceBounds
      simp only[pure_bind]
      cases hi with
      |none=>
       simp only[Option.some.injEq]at h2
       subst h2
       cases lo with
       |none=>simp only[Option.some.injEq]at h1;subst h1;rfl
       |some y=>
        simp only[Option.map_some,Option.map_none,pure_bind]
        rw[aH (K5 h1 h3)];rfl
      |some z=>
       simp only[Option.map_some,pure_bind]
       rw[aH (K5 h2 hle)]
       cases lo with
       |none=>simp only[Option.some.injEq]at h1;subst h1;rfl
       |some y=>
        simp only[Option.map_some]
        rw[aH (K5 h1 h3)];rfl
     rw[aH hbd]
     rfl
    refine qI ?_ ?_ rfl
    ·intro z hz
     cases lo <;> cases hi <;> simp[Op.operands]at hz <;> first
      |(subst hz;rw[hx];rfl)
      |(rcases hz with rfl|rfl
        ·rw[hx];rfl
        ·first|exact XT _ _ h1|exact XT _ _ h2)
      |(rcases hz with rfl|rfl|rfl
        ·rw[hx];rfl
        ·exact XT _ _ h1
        ·exact XT _ _ h2)
    ·have e:aB P (execOp (ev T) ⟨none,.slice t x lo hi none,ty, "",#[],none⟩)=aB P (do pure (.value (←Instr.slice t (ev T x) (lo.map (ev T)) (hi.map (ev T)) none)):Sem Next):=by
      simp only[execOp,Option.map_none]
      rw[aM,aM]
      congr 1
      unfold Instr.sliceAt
      rw[aH (cz ht)]
     rw[e,aH hrun,extract_data];rfl
   ·cases h
  ·cases h
 ·cases h
end
end
section
section
variable {P:Program}
theorem Qa {T:Env}{H:aa}{io:bZ}{v:Value}(h:bL P T H (KZ P io)=some v):bL P T H io=some v:=by
 unfold KZ at h
 split at h
 ·split at h
  ·exact M7 h
  ·exact M7 h
  ·rename_i hu
   split at h
   ·exact K3 (neg:=false) hu h
   ·exact K3 (neg:=true) hu h
   ·exact h
  ·rename_i fs hu
   split at h
   ·rename_i k sh hk hg;exact M8 (neg:=false) hu hk hg (by simp) h
   ·rename_i k sh hk hg;exact M8 (neg:=true) hu hk hg (by simp) h
   ·exact h
  ·exact h
 ·exact VW h
 ·split at h
  ·rename_i hs hd;exact R9 hs hd h
  ·exact h
 ·split at h
  ·rename_i ha hy
   split at h
   ·rename_i hu;exact Ob hu ha hy h
   ·exact h
  ·rename_i ha;exact M9 (mx:=true) ha h
  ·rename_i ha;exact M9 (mx:=false) ha h
  ·exact h
 ·split at h
  ·rename_i hu;exact Oc hu h
  ·exact h
 ·split at h
  ·rename_i hu;exact P9 hu h
  ·exact h
 ·simp[bL]at h
 ·exact h
theorem K6 (io:bZ):(KZ P io).kind=io.kind∧(io.kind ≠ .rd→KZ P io=io):=by
 unfold KZ
 split <;> (repeat' split) <;> exact⟨rfl,fun h=>by first|rfl|exact absurd rfl h⟩
structure Od (P:Program)(φ:bZ→bZ):Prop where
 rd: ∀T H io v,bL P T H (φ io)=some v→bL P T H io=some v
 kind: ∀io,(φ io).kind=io.kind
 fix: ∀io,io.kind ≠ .rd→φ io=io
theorem XU:Od P (KZ P):=⟨fun _ _ _ _ h=>Qa h,fun io=>(K6 io).1,fun io=>(K6 io).2⟩
theorem VX:Od P id:=⟨fun _ _ _ _ h=>h,fun _=>rfl,fun _ _=>rfl⟩
def mJ (φ:bZ→bZ)(o:aN):aN:={o with op:=φ o.op}
def zi (φ:bZ→bZ):qR→qR
 | .ops l=>.ops (l.map (mJ φ))
 | .draw l=>.draw (l.map fun x=>(mJ φ x.1,x.2.map (mJ φ)))
 | .seq a b=>.seq (zi φ a) (zi φ b)
 | .cond c a b=>.cond c (zi φ a) (zi φ b)
 | .block id a=>.block id (zi φ a)
 | .loop a=>.loop (zi φ a)
 |c=>c
theorem K7:mJ id=id:=rfl
theorem tY: ∀c,zi id c=c
 | .skip=>rfl
 | .ops l=>by simp[zi,K7]
 | .draw l=>by simp[zi,K7]
 | .seq a b=>by simp[zi,tY a,tY b]
 | .cond c a b=>by simp[zi,tY a,tY b]
 | .block id a=>by simp[zi,tY a]
 | .loop a=>by simp[zi,tY a]
 | .exit _=>rfl
 | .ret=>rfl
def GD (C C':bS):Prop:=∀f a H K K',(∀v H',K v H'→K' v H')→C f a H K→C' f a H K'
variable {C C':bS} {φ:bZ→bZ}
theorem Qb {H:aa}{K K':Value→aa→Prop}(hK: ∀v H',K v H'→K' v H'){x:Value}(h:wS H K x):wS H K' x:=by
 unfold wS at h
 split at h
 ·exact hK _ _ h
 ·split at h
  ·rename_i hg;simp only[wS,hg];exact hK _ _ h
  ·exact h.elim
 ·exact h.elim
theorem Qc {H:aa}{K K':Value→aa→Prop}(hK: ∀v H',K v H'→K' v H'){x:Value}(h:rQ H K x):rQ H K' x:=by
 unfold rQ at h
 split at h
 ·split at h
  ·rename_i hg;simp only[rQ,hg];exact hK _ _ h
  ·rename_i hg
   split at h
   ·rename_i hg2;simp only[rQ,hg,hg2];exact⟨h.1,fun k=>hK _ _ (h.2.1 k),fun e he hn=>hK _ _ (h.2.2 e he hn)⟩
   ·exact h.elim
  ·exact h.elim
 ·exact h.elim
theorem Qd {H:aa}{K K':Value→aa→Prop}(hK: ∀v H',K v H'→K' v H'){x:Value}(h:uu H K x):uu H K' x:=by
 unfold uu at h
 split at h
 ·split at h
  ·rename_i hg
   split at h
   ·rename_i hg2
    simp only[uu,hg,hg2]
    obtain⟨h1,pre,s,h2,e,h3,h4⟩:=h
    exact⟨h1,pre,s,h2,e,h3,hK _ _ h4⟩
   ·exact h.elim
  ·exact h.elim
 ·exact h.elim
theorem K8 (hφ:Od P φ)(hC:GD C C'){T:Env}{H:aa}{o:bZ}{K K':Value→aa→Prop}(hK: ∀v H',K v H'→K' v H')(h:NQ P C T H (φ o) K):NQ P C' T H o K':=by
 unfold NQ at h ⊢
 rw[hφ.kind]at h
 cases hk:o.kind with
 |rd=>
  rw[hk]at h
  obtain⟨v,h1,h2⟩:=h
  exact⟨v,hφ.rd _ _ _ _ h1,hK _ _ h2⟩
 |al=>
  rw[hk,hφ.fix o (by rw[hk];simp)]at h
  obtain⟨r,h1,h2⟩:=h
  exact⟨r,h1,hK _ _ h2⟩
 |ac=>
  rw[hk,hφ.fix o (by rw[hk];simp)]at h
  obtain⟨r,h1,h2⟩:=h
  exact⟨r,h1,hK _ _ h2⟩
 |ca=>
  rw[hk,hφ.fix o (by rw[hk];simp)]at h
  simp only[]at h ⊢
  unfold rR at h ⊢
  split at h
  ·exact hC _ _ _ _ _ hK h
  ·split at h
   ·exact hC _ _ _ _ _ hK h
   ·exact h.elim
  ·exact Qb hK h
  ·exact Qc hK h
  ·exact Qd hK h
  ·exact h.elim
theorem K9 (hφ:Od P φ)(hC:GD C C'): ∀(l:List aN) {K K':Env→aa→Prop} {T:Env} {H:aa},(∀T H,K T H→K' T H)→fe P C (l.map (mJ φ)) K T H→fe P C' l K' T H
 |[],K,K',T,H,hK,h=>hK _ _ h
 |o::os,K,K',T,H,hK,h=>by
  simp only[List.map_cons,fe,mJ]at h ⊢
  cases hw:dI T o.guard with
  |true=>
   rw[hw]at h
   exact K8 hφ hC (fun v H' k=>K9 hφ hC os hK k) h
  |false=>rw[hw]at h;exact K9 hφ hC os hK h
theorem Lb (hφ:Od P φ){T:Env}{H:aa}{o:aN}(h:aQ P T H (mJ φ o)):aQ P T H o:=by
 unfold aQ at h ⊢
 simp only[mJ]at h
 split at h
 ·rename_i d hg hd
  exact hφ.rd _ _ _ _ h
 ·rename_i hg hd
  obtain⟨v,hv⟩:=Option.isSome_iff_exists.1 h
  rw[hφ.rd _ _ _ _ hv];rfl
 ·trivial
theorem Db (hφ:Od P φ){T:Env}{H:aa}: ∀(l:List aN),dx P T H (l.map (mJ φ))→dx P T H l
 |[],_=>trivial
 |[o],h=>Lb hφ h
 |o::p::os,h=>⟨Lb hφ h.1,Db hφ (p::os) h.2⟩
theorem AB (hφ:Od P φ)(hC:GD C C'): ∀(l:List (aN×List aN)) {K K':Env→aa→Prop} {T:Env} {H:aa},(∀T H,K T H→K' T H) →
 bM P C (l.map fun x=>(mJ φ x.1,x.2.map (mJ φ))) K T H→bM P C' l K' T H
 |[],K,K',T,H,hK,h=>hK _ _ h
 |(o,st)::os,K,K',T,H,hK,h=>by
  simp only[List.map_cons,bM,mJ]at h ⊢
  cases hw:dI T o.guard with
  |true=>
   rw[hw]at h
   cases st with
   |nil=>exact K8 hφ hC (fun v H' k=>AB hφ hC os hK k) h
   |cons p r=>exact K8 hφ hC (fun v H' k=>⟨Db hφ (p::r) k.1,AB hφ hC os hK k.2⟩) h
  |false=>rw[hw]at h;exact AB hφ hC os hK h
theorem qw (hφ:Od P φ)(hC:GD C C'): ∀(c:qR) {Q Q':Exit→Env→aa→Prop} {T:Env} {H:aa},(∀e T H,Q e T H→Q' e T H)→AQ P C (zi φ c) Q T H→AQ P C' c Q' T H
 | .skip,Q,Q',T,H,hQ,h=>hQ _ _ _ h
 | .ops l,Q,Q',T,H,hQ,h=>K9 hφ hC l (hQ _) h
 | .draw l,Q,Q',T,H,hQ,h=>AB hφ hC l (hQ _) h
 | .seq a b,Q,Q',T,H,hQ,h=>qw hφ hC a (fun e T H k=>by
     cases e with
     |normal=>exact qw hφ hC b hQ k
     |_=>exact hQ _ _ _ k) h
 | .cond c a b,Q,Q',T,H,hQ,h=>by
   simp only[zi,AQ]at h ⊢
   split at h
   ·exact qw hφ hC a hQ h
   ·exact qw hφ hC b hQ h
   ·exact h.elim
 | .block id a,Q,Q',T,H,hQ,h=>qw hφ hC a (fun e T H k=>by
     cases e with
     |exit id'=>
      simp only[Dk]at k ⊢
      split at k
      ·rename_i he;rw[if_pos he];exact hQ _ _ _ k
      ·rename_i he;rw[if_neg he];exact hQ _ _ _ k
     |_=>exact hQ _ _ _ k) h
 | .loop a,Q,Q',T,H,hQ,h=>by
   intro X hX
   refine h X fun T H hb=>hX T H (qw hφ hC a (fun e T H k=> ?_) hb)
   cases e with
   |normal=>exact k
   |_=>exact hQ _ _ _ k
 | .exit id,Q,Q',T,H,hQ,h=>hQ _ _ _ h
 | .ret,Q,Q',T,H,hQ,h=>hQ _ _ _ h
theorem VY (hC:GD C C')(c:qR){Q Q':Exit→Env→aa→Prop}{T:Env}{H:aa}(hQ: ∀e T H,Q e T H→Q' e T H)(h:AQ P C c Q T H):AQ P C' c Q' T H:=
 qw VX hC c hQ (by rw[tY];exact h)
theorem Lc (hφ:Od P φ)(hC:GD C C'){g:aA}{args:List Value}{H:aa}{K K':Value→aa→Prop}(hK: ∀v H',K v H'→K' v H')(h:Ii P C {g with body:=zi φ g.body} args H K):Ii P C' g args H K':=by
 refine⟨h.1,qw hφ hC g.body (fun e T H k=> ?_) h.2⟩
 cases e with
 |normal=>obtain⟨r,h1,h2⟩:=k;exact⟨r,h1,hK _ _ h2⟩
 |ret=>obtain⟨r,h1,h2⟩:=k;exact⟨r,h1,hK _ _ h2⟩
 |_=>exact k.elim
theorem Ld (hC:GD C C'){g:aA}{args:List Value}{H:aa}{K K':Value→aa→Prop}(hK: ∀v H',K v H'→K' v H')(h:Ii P C g args H K):Ii P C' g args H K':=
 Lc VX hC hK (by rw[tY];exact h)
variable {IP:FuncId→Option aA} {X:bS}
def inner (Y:bS):bS:=fun f a H K=> ∀K',(∀v H',K v H'→K' v H')→Y f a H K'
theorem VZ (Y:bS):GD (inner Y) Y:=fun _ _ _ _ K' hK h=>h K' hK
theorem Oe (hX:GD X X){Y:bS}(hY: ∀f args H K,(X f args H K∨∃g,IP f=some g∧Ii P Y g args H K)→Y f args H K):
 ∀f args H K,(X f args H K∨∃g,IP f=some g∧Ii P (inner Y) g args H K)→inner Y f args H K:=by
 intro f args H K h K' hK
 rcases h with h|⟨g,hg,hb⟩
 ·exact hY _ _ _ _ (.inl (hX _ _ _ _ _ hK h))
 ·exact hY _ _ _ _ (.inr ⟨g,hg,Ld (VZ Y) hK hb⟩)
theorem jr.mono (hX:GD X X):GD (jr P IP X) (jr P IP X):=by
 intro f a H K K' hK h Y hY
 exact h (inner Y) (Oe hX hY) K' hK
theorem jr.fold (hX:GD X X){f:FuncId}{g:aA}{args:List Value}{H:aa}{K:Value→aa→Prop}(hg:IP f=some g)(h:Ii P (jr P IP X) g args H K):jr P IP X f args H K:=by
 intro Y hY
 have hle:GD (jr P IP X) Y:=fun f a H K K' hK h=>(jr.mono hX f a H K K' hK h) Y hY
 exact hY _ _ _ _ (.inr ⟨g,hg,Ld hle (fun _ _ k=>k) h⟩)
theorem jr.ext {f:FuncId}{args:List Value}{H:aa}{K:Value→aa→Prop}(h:X f args H K):jr P IP X f args H K:=fun _ hY=>hY _ _ _ _ (.inl h)
def qbd (P:Program)(g:aA):aA:={g with body:=zi (KZ P) g.body}
def pQ (P:Program)(f:FuncId):Option aA:=(vg P f).map (qbd P)
theorem jr.ref (hX:GD X X){IP':FuncId→Option aA}(hIP: ∀f g,IP' f=some g→∃g0,IP f=some g0∧g=qbd P g0):GD (jr P IP' X) (jr P IP X):=by
 intro f a H K K' hK h
 refine jr.mono hX f a H K K' hK (h (jr P IP X) ?_)
 intro f a H K hh
 rcases hh with hh|⟨g,hg,hb⟩
 ·exact jr.ext hh
 ·obtain⟨g0,h1,rfl⟩:=hIP f g hg
  exact jr.fold hX h1 (Lc XU (jr.mono hX) (fun _ _ k=>k) hb)
theorem Na (hm:P.follows .mixedOrders=true)(hIP: ∀f g,IP f=some g→pQ P f=some g)(hX:vE P X)(hXm:GD X X):vE P (jr P IP X):=by
 have h1:=VU hm (IP:=fun f=>if (IP f).isSome then vg P f else none) (X:=X) (fun f g h=>by
  split at h
  ·exact h
  ·cases h) hX
 intro f args H K h
 refine h1 f args H K (jr.ref hXm (IP:=fun f=>if (IP f).isSome then vg P f else none) (fun f g hg=> ?_) f args H K K (fun _ _ k=>k) h)
 have:=hIP f g hg
 unfold pQ at this
 simp only[Option.map_eq_some_iff]at this
 obtain⟨g0,h2,h3⟩:=this
 exact⟨g0,by simp[hg,h2],h3.symm⟩
theorem aS (hC:GD C C){a:qR}{Q:Exit→Env→aa→Prop}(I:Nat→Env→aa→Prop)(n:Nat){T:Env}{H:aa}(h0:I n T H)
 (round: ∀n T H,I n T H→AQ P C a (KD (fun T' H'=> ∃m,m<n∧I m T' H') Q) T H):AQ P C (.loop a) Q T H:=by
 intro X hX
 have key: ∀n T H,I n T H→X T H:=by
  intro n
  induction n using Nat.strongRecOn with
  |_ n ih=>
   intro T H hI
   refine hX T H (VY hC a (fun e T' H' k=> ?_) (round n T H hI))
   cases e with
   |normal=>obtain⟨m,h1,h2⟩:=k;exact ih m h1 _ _ h2
   |_=>exact k
 exact key n T H h0
end
end
end Go.Proofs.YtpbbjfighohokaaGreatI
