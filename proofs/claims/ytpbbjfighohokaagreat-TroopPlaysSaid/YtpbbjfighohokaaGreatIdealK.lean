/- Operations that turn the heap. / Appends, and the other operations that turn the heap. / All operations that turn the heap, in one. -/
import Derived.Test.YtpbbjfighohokaaGreatIdealH
namespace Go.Proofs.YtpbbjfighohokaaGreatI
open Go
set_option linter.unusedSimpArgs false
set_option linter.unusedVariables false
section
theorem EG {L vs:List Value}{base o m:Nat}(h1:o+vs.length≤m)(h2:base+m≤L.length):
 ((putAt L (base+o) vs).drop base).take m=putAt ((L.drop base).take m) o vs:=by
 apply List.ext_getElem?
 intro i
 unfold putAt
 simp only[List.getElem?_take,List.getElem?_drop,List.getElem?_append,List.length_append,List.length_take,List.length_drop]
 by_cases hi:i<m
 ·by_cases h3:i<o
  ·simp only[hi,if_true]
   rw[if_pos (by omega),if_pos (by omega),if_pos (by omega),if_pos (by omega),if_pos (by omega),if_pos (by omega)]
  ·by_cases h4:i<o+vs.length
   ·simp only[hi,if_true]
    rw[if_pos (by omega),if_neg (by omega),if_pos (by omega),if_neg (by omega)]
    congr 1;omega
   ·simp only[hi,if_true]
    rw[if_neg (by omega),if_neg (by omega),if_pos (by omega)]
    congr 1;omega
 ·rw[if_neg hi]
  by_cases h3:i<o
  ·omega
  ·by_cases h4:i<o+vs.length
   ·omega
   ·rw[if_neg (by omega),if_neg (by omega)]
theorem wY {L vs:List Value}{o:Nat}(h:o+vs.length≤L.length):(putAt L o vs).length=L.length:=by
 unfold putAt;simp;omega
structure WAt (w w':World)(k:Nat):Prop where
 size:w'.heap.size=w.heap.size
 old: ∀j,j≠k→w'.heap[j]? =w.heap[j]?
 os:w'.os=w.os
 tape:w'.tape=w.tape
 output:w'.output=w.output
theorem MV (w:World)(b:Nat)(arr:Array Value)(t:TypeId)(fr:Nat×Nat):WAt w (World.lg w b arr t fr) b:=
 ⟨by simp[World.lg],fun j hj=>TV (fun e=>hj e.symm),rfl,rfl,rfl⟩
section
variable {P:Program} {n:Nat} {R:Ren} {H:aa} {w:World} {T:Env} {a:Act}
theorem NZ {w':World}{b:Nat}{o x:fK}(hS:jC R H w)(hb:R.dom b)(hg:H.get b=some o)(hlo:live H b)(hrw:bI H b)(hw:WAt w w' (R.blk b))(hx:wW R (some x) b w')(hlx:x ≠ .dead):
 jC R (H.set b x) w'∧Ext R H w R (H.set b x) w':=by
 have hget: ∀c,(H.set b x).get c=if c=b then some x else H.get c:=fun c=>rfl
 have hlive: ∀c,live (H.set b x) c→live H c:=fun c hc=>by
  unfold live at hc ⊢
  rw[hget]at hc
  by_cases h:c=b
  ·subst h;exact hlo
  ·rw[if_neg h]at hc;exact hc
 have EH: ∀c,bI (H.set b x) c→bI H c:=fun c hc=>by
  unfold bI at hc ⊢
  rw[hget]at hc
  by_cases h:c=b
  ·subst h;exact hrw
  ·rw[if_neg h]at hc;exact hc
 constructor
 ·refine⟨hS.lt,fun c hc=> ?_,fun c d hc hd hlc hld hor he=>hS.inj c d hc hd (hlive c hlc) (hlive d hld) (hor.imp (EH c) (EH d)) he,fun c hc=>by rw[hget,if_neg (fun e:c=b=>by have:=hS.lt b hb;have hc':H.next≤c:=hc;omega)];exact hS.wf c hc⟩
  rw[hget]
  by_cases h:c=b
  ·subst h;simpa using hx
  ·rw[if_neg h]
   have ho:=hS.obj c hc
   cases hgc:H.get c with
   |none=>rw[hgc]at ho;exact ho.elim
   |some ob=>
    by_cases hd:ob = .dead
    ·subst hd;trivial
    ·rw[←hgc]
     have hl:live H c:=by unfold live;rw[hgc];cases ob <;> first|trivial|exact absurd rfl hd
     refine ho.move R.le_refl hc fun y hy=> ?_
     rw[hw.old _ (fun e=>h (hS.inj c b hc hb hl hlo (.inr hrw) e))]
     exact hy
 ·refine⟨R.le_refl,Nat.le_refl _,fun c hc=>.inl hc,fun c _ hn=> ?_,fun c cs hgc _=> ?_,fun k _ hk=>hw.old k fun e=>hk b hb hrw e.symm,fun c hc hl=> ?_,by rw[hw.size];exact Nat.le_refl _,hw.os,hw.tape,hw.output⟩
  ·rw[hget,if_neg (fun e:c=b=>hn (e▸hb))]
  ·rw[hget]
   by_cases h:c=b
   ·subst h;exfalso;unfold bI at hrw;rw[hgc]at hrw;exact hrw
   ·rw[if_neg h];exact hgc
  ·refine .inr ⟨c,hc,?_,rfl⟩
   unfold bI at hl ⊢
   rw[hget]at hl
   by_cases h:c=b
   ·subst h;exact hrw
   ·rw[if_neg h]at hl;exact hl
theorem jC.aK {H':aa}{b o:Nat}{vs vs':List Value}(hS:jC R H w)(hb:R.dom b)(h:H.aK b o vs=some H')(hv:fE R vs vs')(P:Program):
 ∃w',(storeCells ⟨R.blk b,R.base b+o,none⟩ vs').run P w = .ok () w'∧jC R H' w'∧Ext R H w R H' w':=by
 unfold aa.aK at h
 split at h
 ·rename_i cs hg
  split at h
  ·rename_i hcond
   injection h with h
   subst h
   have ho:=hS.obj b hb
   rw[hg]at ho
   obtain⟨h1,h2,arr,t,fr,h3,h4,h5,h6⟩:=ho
   have hlen:=hv.length
   have hrun:=y8 P (b:=R.blk b) (o:=R.base b+o) (vs:=vs') h3 (by omega) (by rw[hv.one];exact hcond.2) (fun j hj1 hj2=>h6 rfl j (by omega) (by omega))
   refine⟨_,hrun,NZ hS hb hg (by unfold live;rw[hg];trivial) (by unfold bI;rw[hg];trivial) (MV _ _ _ _ _) ?_ (by simp)⟩
   have hblk:R.blk b<w.heap.size:=(Array.getElem?_eq_some_iff.1 h3).1
   have hl1:(putAt cs o vs).length=cs.length:=wY hcond.1
   have hl2:(putAt arr.toList (R.base b+o) vs').length=arr.toList.length:=wY (by simp;omega)
   refine⟨by rw[hl1];exact h1,by rw[hl1];exact h2,_,t,fr,Dm hblk,by simpa[hl2]using h4,?_,fun hr j hj1 hj2=>h6 hr j hj1 hj2⟩
   rw[hl1]
   simp only[]
   rw[EG (by rw[←hlen];exact hcond.1) (by simp;omega)]
   exact fE.putAt h5 hv o
  ·cases h
 ·cases h
theorem jC.AA (hS:jC R H w)(o:fK):jC R (H.alloc o) w:=by
 have hget: ∀c,R.dom c→(H.alloc o).get c=H.get c:=fun c hc=>by
  have:=hS.lt c hc
  show(if c=H.next then some o else H.get c)=_
  rw[if_neg (by omega)]
 refine⟨fun b hb=>Nat.lt_succ_of_lt (hS.lt b hb),fun b hb=>by rw[hget b hb];exact hS.obj b hb,fun b c hb hc hlb hlc hor he=>hS.inj b c hb hc ?_ ?_ (hor.imp (fun h=>by unfold bI at h ⊢;rw[hget b hb]at h;exact h) (fun h=>by unfold bI at h ⊢;rw[hget c hc]at h;exact h)) he,fun c hc=>by
  have hc':H.next+1≤c:=hc
  show(if c=H.next then some o else H.get c)=_
  rw[if_neg (by omega)];exact hS.wf c (by omega)⟩
 ·unfold live at hlb ⊢;rw[hget b hb]at hlb;exact hlb
 ·unfold live at hlc ⊢;rw[hget c hc]at hlc;exact hlc
theorem iC (H:aa)(o:fK):(H.alloc o).get H.next=some o:=by simp[aa.alloc]
theorem fG (H:aa)(o:fK){c:Nat}(hc:c<H.next):(H.alloc o).get c=H.get c:=by
 show(if c=H.next then some o else H.get c)=_
 rw[if_neg (by omega)]
theorem N7 {w':World}{o:fK}{R':Ren}(hS:jC R H w)(hle:R.le R')(hdom: ∀b,R'.dom b↔(R.dom b∨b=H.next))(hblk:R'.blk H.next=w.heap.size)(hw:Ua w w'):
 Ext R H w R' (H.alloc o) w':=by
 refine⟨hle,Nat.le_succ _,fun b hb=> ?_,fun b hb _=>fG H o hb,fun b cs hg hb=>by rw[fG H o hb];exact hg,fun k hk _=>hw.old k hk,fun b hb hl=> ?_,by rw[hw.size];omega,hw.os,hw.tape,hw.output⟩
 ·rcases(hdom b).1 hb with h|h
  ·exact .inl h
  ·exact .inr (by omega)
 ·rcases(hdom b).1 hb with h|h
  ·refine .inr ⟨b,h,?_,(hle.blk b h).symm⟩
   unfold bI at hl ⊢
   rw[fG H o (hS.lt b h)]at hl
   exact hl
  ·subst h;exact .inl (by omega)
theorem VA {b:Nat}{cs:List Value}(hS:jC R H w)(hb:R.dom b)(hg:H.get b=some (.cells cs false)):jC R (H.set b .dead) w∧Ext R H w R (H.set b .dead) w:=by
 have hget: ∀c,(H.set b .dead).get c=if c=b then some .dead else H.get c:=fun c=>rfl
 have hlive: ∀c,live (H.set b .dead) c→live H c∧c≠b:=fun c hc=>by
  unfold live at hc ⊢
  rw[hget]at hc
  by_cases h:c=b
  ·rw[if_pos h]at hc;exact hc.elim
  ·rw[if_neg h]at hc;exact⟨hc,h⟩
 have EH: ∀c,bI (H.set b .dead) c→bI H c:=fun c hc=>by
  unfold bI at hc ⊢
  rw[hget]at hc
  by_cases h:c=b
  ·rw[if_pos h]at hc;exact hc.elim
  ·rw[if_neg h]at hc;exact hc
 constructor
 ·refine⟨hS.lt,fun c hc=> ?_,fun c d hc hd hlc hld hor he=>hS.inj c d hc hd (hlive c hlc).1 (hlive d hld).1 (hor.imp (EH c) (EH d)) he,fun c hc=>by rw[hget,if_neg (fun e:c=b=>by have:=hS.lt b hb;have hc':H.next≤c:=hc;omega)];exact hS.wf c hc⟩
  rw[hget]
  by_cases h:c=b
  ·rw[if_pos h];trivial
  ·rw[if_neg h];exact hS.obj c hc
 ·refine⟨R.le_refl,Nat.le_refl _,fun c hc=>.inl hc,fun c _ hn=> ?_,fun c cs' hgc _=> ?_,fun k _ hk=>rfl,fun c hc hl=> ?_,Nat.le_refl _,rfl,rfl,rfl⟩
  ·rw[hget,if_neg (fun e:c=b=>hn (e▸hb))]
  ·rw[hget]
   by_cases h:c=b
   ·subst h;rw[hg]at hgc;cases hgc
   ·rw[if_neg h];exact hgc
  ·refine .inr ⟨c,hc,?_,rfl⟩
   unfold bI at hl ⊢
   rw[hget]at hl
   by_cases h:c=b
   ·rw[if_pos h]at hl;exact hl.elim
   ·rw[if_neg h]at hl;exact hl
theorem Gx {size m:Nat}{s s':Value}{l:List Value}(hS:jC R H w)(hv:VR R s s')(hm: ∀q,bG s=some q→m≤q)(h:aZ H size m s=some l):
 ∃l':Array Value,(∀d,(Builtin.firstCells size m s').run P {w with drawn:=d} = .ok l' {w with drawn:=d})∧fE R l l'.toList:=by
 unfold aZ at h
 split at h
 ·obtain⟨h1,_,_⟩:=hv.Az
  injection h with h;subst h;subst h1
  exact⟨#[],fun d=>rfl,.nil⟩
 ·rename_i b o len cap
  obtain⟨hd,_,hcase⟩:=hv.iM
  split at h
  ·rename_i h0
   injection h with h;subst h
   refine⟨#[],fun d=> ?_,.nil⟩
   rcases hcase with⟨c',rfl⟩|⟨_,a',rfl⟩ <;> simp only[Builtin.firstCells,h0] <;> rfl
  ·rename_i h0
   obtain⟨arr,t,fr,hw,hle,hvs⟩:=hS.aP hd h
   rcases hcase with⟨c',rfl⟩|⟨hl0,a',rfl⟩
   ·exact⟨_,fun d=>run_loadCells P (w:={w with drawn:=d}) hw hle,by simpa using hvs⟩
   ·subst hl0
    have:=hm 0 rfl
    exfalso;apply h0;rw[show m=0 by omega];simp
 ·cases h
end
end
section
theorem MW (m:Nat): ∀(k c:Nat),Builtin.growBy m k c≤max c (m+(m+768)/4)
 |0,c=>by simp only[Builtin.growBy];omega
 |k+1,c=>by
  simp only[Builtin.growBy]
  split
  ·omega
  ·have:=MW m k (c+(c+768)/4)
   omega
theorem RQ {m c:Nat}(h:c<m):Builtin.nextslicecap m c≤2*m:=by
 unfold Builtin.nextslicecap
 split
 ·omega
 ·split
  ·omega
  ·have:=MW m 4 c
   omega
def CY (e:TypeId)(size:Nat)(zeros:Bool)(s:Value)(base:Option Addr)(sLen sCap n:Nat)(x:Value)(appended:Sem (Array Value)):Sem Value:=do
 let need:=sLen+n
 if need≤sCap then
  let new ←appended
  if let some a:=base then storeCells (a.add (sLen*size)) new.toList
  pure (.slice base need sCap)
 else
  if (need:Int)>IntKind.i64.max∧(zeros∨(←typeInfo e).bytes=0)then runtimePanic (.error "growslice: len out of range")
  if Builtin.nextslicecap need sCap*(←typeInfo e).bytes>2 ^ 48 then (if zeros then runtimePanic (.error "growslice: len out of range")else do
   if !(←Builtin.mayShare size sLen n base x)then mark .noRoom
   unsupported (.resourceLimit "append: a slice or a string whose bytes no memory bears"))
  let newCap ←choose (.appendCap need sCap e)
  askRoom (newCap*(←typeInfo e).bytes)
  let old ←Builtin.firstCells size sLen s
  let new ←appended
  let rest:=Builtin.zeroCells (←zeroValue e).cells (newCap-need)
  pure (.slice (some (←newRow e (old++new++rest))) need newCap)
section
variable {P:Program} {n:Nat} {R:Ren} {H:aa} {w:World} {T:Env} {a:Act}
theorem EJ {e:TypeId}{size sLen sCap m:Nat}{zeros:Bool}{s x:Value}{base:Option Addr}{app:Sem (Array Value)}(h:sLen+m≤sCap):
 (CY e size zeros s base sLen sCap m x app).run P w=((app.run P w).andThen fun new w1=>((match base with|some a=>storeCells (a.add (sLen*size)) new.toList|none=>pure ():Sem Unit).run P w1).andThen fun _ w2=>.ok (.slice base (sLen+m) sCap) w2):=by
 unfold CY
 simp only[h,if_true,Sem.run_bind]
 congr 1
 funext new w1
 cases base <;> simp
theorem Ub {e:TypeId}{size bytes sLen sCap m:Nat}{zeros:Bool}{s x z:Value}{base:Option Addr}{app:Sem (Array Value)}(h: ¬ sLen+m≤sCap)
 (hb:y7 P e=some bytes) (hb0:0<bytes) (hz:fU P e=some z) (h1:(sLen+m)*bytes≤140737488355328) (h2:sLen+m≤140737488355328) {old new:Array Value}
 (hold:(Builtin.firstCells size sLen s).run P {w with drawn:=w.drawn+1} = .ok old {w with drawn:=w.drawn+1}) (hnew:app.run P {w with drawn:=w.drawn+1} = .ok new {w with drawn:=w.drawn+1}):
 ∃cap,sLen+m≤cap∧cap<dY∧(CY e size zeros s base sLen sCap m x app).run P w = .ok (.slice (some ⟨w.heap.size,0,none⟩) (sLen+m) cap)
  {w with heap:=w.heap.push (.cells (old++new++Builtin.zeroCells z.cells (cap-(sLen+m))) e),drawn:=w.drawn+1}:=by
 have _:=hb0
 obtain⟨i,hi,hib⟩: ∃i,P.info? e=some i∧i.bytes=bytes:=by
  unfold y7 at hb
  cases hi:P.info? e with
  |none=>simp[hi]at hb
  |some i=>simp[hi]at hb;exact⟨i,rfl,hb⟩
 refine⟨(Question.appendCap (sLen+m) sCap e).cut (w.tape w.drawn (.appendCap (sLen+m) sCap e)),by simp[Question.cut],by
  have hm:=Nat.mod_lt (w.tape w.drawn (.appendCap (sLen+m) sCap e)) (show 0<2 ^ 63-(sLen+m)by omega)
  simp only[Question.cut,dY];omega,?_⟩
 generalize hcap:(Question.appendCap (sLen+m) sCap e).cut (w.tape w.drawn (.appendCap (sLen+m) sCap e))=cap
 have hrun:(choose (.appendCap (sLen+m) sCap e)).run P w = .ok cap {w with drawn:=w.drawn+1}:=by rw[←hcap];rfl
 have EF:=fun w=>(jU (P:=P) hz w).1
 unfold CY
 simp only[h,if_false]
 have hn1: ¬ (((sLen+m:Nat):Int)>IntKind.i64.max∧(zeros=true∨bytes=0)):=by
  intro hq
  have:IntKind.i64.max=9223372036854775807:=by decide
  omega
 have hn2: ¬ (Builtin.nextslicecap (sLen+m) sCap*bytes>2 ^ 48):=by
  have:=RQ (m:=sLen+m) (c:=sCap) (by omega)
  have h3:Builtin.nextslicecap (sLen+m) sCap*bytes≤2*(sLen+m)*bytes:=Nat.mul_le_mul_right _ this
  rw[Nat.mul_assoc]at h3
  omega
 simp only[Sem.run_bind,run_typeInfo hi,Result.andThen_ok,hib]
 rw[if_neg hn1]
 simp only[Sem.run_bind,run_typeInfo hi,Result.andThen_ok,hib,pure_bind,Sem.run_pure]
 rw[if_neg hn2]
 simp only[Sem.run_bind,run_typeInfo hi,Result.andThen_ok,pure_bind,Sem.run_pure,hrun,run_askRoom,hold,hnew,EF]
 rfl
theorem nT (z:Array Value)(m:Nat):(Builtin.zeroCells z m).size=m*z.size:=by simp[Builtin.zeroCells]
theorem CZ (R:Ren){z:Value}(h:qX z=true)(m:Nat):fE R (Builtin.zeroCells z.cells m).toList (Builtin.zeroCells z.cells m).toList:=by
 unfold Builtin.zeroCells
 exact za R h _
def Ren.bW (R:Ren)(r blk base size len:Nat):Ren where
 dom b:=R.dom b∨b=r
 blk b:=if b=r then blk else R.blk b
 base b:=if b=r then base else R.base b
 size b:=if b=r then size else R.size b
 len b:=if b=r then len else R.len b
theorem Ren.vD {R:Ren}{r blk base size len:Nat}(h: ¬ R.dom r):R.le (R.bW r blk base size len):=by
 have hne: ∀b,R.dom b→b≠r:=fun b hb e=>h (e▸hb)
 refine⟨fun b hb=>.inl hb,fun b hb=> ?_,fun b hb=> ?_,fun b hb=> ?_,fun b hb=> ?_⟩ <;> simp[Ren.bW,hne b hb]
theorem RV {b o len m c size:Nat}{cs news qm:List Value}{new:Array Value}(hS:jC R H w)(hd:R.dom b)(hg:H.get b=some (.cells cs false))(hq4:0<size)(hone:news.all cO=true)
 (hrel:fE R news new.toList) (ZT:news.length=m*size) (k1:R.len b≤o+c*size) (k2:R.base b+o+c*size≤R.size b) (hlc:len+m≤c) (hcU:size=1∨c<dY) {s:Nat}
 (hfi:aZ H size len (.slice (some ⟨b,o,none⟩) len s)=some qm) (hol:qm.length=len*size) (hoc:o≤cs.length):
 ∃w' R',(storeCells ⟨R.blk b,R.base b+o+len*size,none⟩ new.toList).run P w = .ok () w'∧VR R' (.slice (some ⟨H.next,0,none⟩) (len+m) (dY+size)) (.slice (some ⟨R.blk b,R.base b+o,none⟩) (len+m) c) ∧
  jC R' ((H.set b .dead).alloc (.cells (qm++news) false)) w'∧Ext R H w R' ((H.set b .dead).alloc (.cells (qm++news) false)) w':=by
 have ho:=hS.obj b hd
 rw[hg]at ho
 obtain⟨g1,g2,arr,t,fr,g3,g4,g5,g6⟩:=ho
 have hmul:(len+m)*size≤c*size:=Nat.mul_le_mul_right _ hlc
 have hadd:(len+m)*size=len*size+m*size:=Nat.add_mul _ _ _
 have hnl:new.toList.length=m*size:=by rw[←hrel.length,ZT]
 have hrun:=y8 P (b:=R.blk b) (o:=R.base b+o+len*size) (vs:=new.toList) g3 (by rw[hnl];omega) (by rw[hrel.one];exact hone) (fun j hj1 hj2=>g6 rfl j (by omega) (by rw[hnl]at hj2;omega))
 have hnd: ¬ R.dom H.next:=fun h=>Nat.lt_irrefl _ (hS.lt _ h)
 have hle:R.le (R.bW H.next (R.blk b) (R.base b+o) (R.size b) ((len+m)*size)):=Ren.vD hnd
 have hlive:live H b:=by unfold live;rw[hg];trivial
 have hrw:bI H b:=by unfold bI;rw[hg];trivial
 have hblk:R.blk b<w.heap.size:=(Array.getElem?_eq_some_iff.1 g3).1
 have hat:=MV w (R.blk b) (putAt arr.toList (R.base b+o+len*size) new.toList).toArray t fr
 have hne: ∀x,R.dom x→x≠H.next:=fun x hx e=>hnd (e▸hx)
 have hget: ∀x,((H.set b .dead).alloc (.cells (qm++news) false)).get x=if x=H.next then some (.cells (qm++news) false)else if x=b then some .dead else H.get x:=fun x=>rfl
 have hlv: ∀x,R.dom x→live ((H.set b .dead).alloc (.cells (qm++news) false)) x→live H x∧x≠b:=fun x hx hl=>by
  unfold live at hl ⊢
  rw[hget,if_neg (hne x hx)]at hl
  by_cases hb:x=b
  ·rw[if_pos hb]at hl;exact hl.elim
  ·rw[if_neg hb]at hl;exact⟨hl,hb⟩
 have PT: ∀x,R.dom x→bI ((H.set b .dead).alloc (.cells (qm++news) false)) x→bI H x:=fun x hx hl=>by
  unfold bI at hl ⊢
  rw[hget,if_neg (hne x hx)]at hl
  by_cases hb:x=b
  ·rw[if_pos hb]at hl;exact hl.elim
  ·rw[if_neg hb]at hl;exact hl
 have e0: ∀x,R.dom x→(R.bW H.next (R.blk b) (R.base b+o) (R.size b) ((len+m)*size)).blk x=R.blk x:=fun x hx=>hle.blk x hx
 have e1:(R.bW H.next (R.blk b) (R.base b+o) (R.size b) ((len+m)*size)).blk H.next=R.blk b:=by simp[Ren.bW]
 refine⟨_,R.bW H.next (R.blk b) (R.base b+o) (R.size b) ((len+m)*size),hrun,?_,⟨?_,?_,?_,fun c hc=>by
  have hc':H.next+1≤c:=hc
  have:=hS.lt b hd
  rw[hget,if_neg (by omega),if_neg (by omega)];exact hS.wf c (by omega)⟩,⟨hle,Nat.le_succ _,?_,?_,?_,?_,?_,by rw[hat.size];exact Nat.le_refl _,hat.os,hat.tape,hat.output⟩⟩
 ·have:=VR.je (R:=R.bW H.next (R.blk b) (R.base b+o) (R.size b) ((len+m)*size)) H.next 0 (len+m) c size (.inr rfl) hq4 hlc hcU (by simp only[Ren.bW,if_true];omega) (by simp only[Ren.bW,if_true];omega)
  simpa[Ren.bW]using this
 ·intro x hx
  rcases hx with hx|rfl
  ·exact Nat.lt_succ_of_lt (hS.lt x hx)
  ·exact Nat.lt_succ_self _
 ·intro x hx
  rw[hget]
  by_cases RX:x=H.next
  ·subst RX
   rw[if_pos rfl]
   have hbx:(R.bW H.next (R.blk b) (R.base b+o) (R.size b) ((len+m)*size)).base H.next=R.base b+o:=by simp[Ren.bW]
   have hsx:(R.bW H.next (R.blk b) (R.base b+o) (R.size b) ((len+m)*size)).size H.next=R.size b:=by simp[Ren.bW]
   have hlx:(R.bW H.next (R.blk b) (R.base b+o) (R.size b) ((len+m)*size)).len H.next=(len+m)*size:=by simp[Ren.bW]
   have hll:(qm++news).length=(len+m)*size:=by simp[hol,ZT,Nat.add_mul]
   have hpl:(putAt arr.toList (R.base b+o+len*size) new.toList).length=arr.toList.length:=wY (by rw[hnl];simp;omega)
   refine⟨by rw[hlx,hll],by rw[hbx,hsx,hll];omega,_,t,fr,by rw[e1];exact Dm hblk,by rw[hsx];simpa[hpl]using g4,?_,fun _ j hj1 hj2=>g6 rfl j (by rw[hbx]at hj1;omega) (by rw[hsx]at hj2;exact hj2)⟩
   rw[hbx,hll]
   simp only[]
   rw[EG (by rw[hnl];omega) (by simp;omega)]
   have hp:putAt ((arr.toList.drop (R.base b+o)).take ((len+m)*size)) (len*size) new.toList=(arr.toList.drop (R.base b+o)).take (len*size)++new.toList:=by
    unfold putAt
    have hdr:((arr.toList.drop (R.base b+o)).take ((len+m)*size)).drop (len*size+new.toList.length)=[]:=List.drop_eq_nil_of_le (by simp only[List.length_take,hnl];omega)
    rw[hdr,List.append_nil,List.take_take,Nat.min_eq_left (by omega)]
   rw[hp]
   refine(fE.append hrel ?_).mono hle
   simp only[aZ]at hfi
   split at hfi
   ·rename_i h0
    injection hfi with hfi
    subst hfi
    rw[h0];exact .nil
   ·obtain⟨Vt,t',fr',hw',hle',hv'⟩:=hS.aP hd hfi
    rw[g3]at hw'
    injection hw' with hw'
    injection hw' with h1 h2 h3
    subst h1
    exact hv'
  ·rw[if_neg RX]
   have hxd:R.dom x:=hx.resolve_right RX
   by_cases hxb:x=b
   ·rw[if_pos hxb];trivial
   ·rw[if_neg hxb]
    have hox:=hS.obj x hxd
    cases hgx:H.get x with
    |none=>rw[hgx]at hox;exact hox.elim
    |some ob=>
     by_cases hdd:ob = .dead
     ·subst hdd;trivial
     ·rw[←hgx]
      have hl:live H x:=by unfold live;rw[hgx];cases ob <;> first|trivial|exact absurd rfl hdd
      refine hox.move hle hxd fun y hy=> ?_
      rw[hat.old _ (fun e=>hxb (hS.inj x b hxd hd hl hlive (.inr hrw) e))]
      exact hy
 ·intro x y hx hy hlx hly hor he
  by_cases RX:x=H.next
  ·by_cases hyn:y=H.next
   ·rw[RX,hyn]
   ·exfalso
    have Mq:=hy.resolve_right hyn
    obtain⟨h1,h2⟩:=hlv y Mq hly
    rw[RX,e1,e0 y Mq]at he
    exact h2 (hS.inj y b Mq hd h1 hlive (.inr hrw) he.symm)
  ·have hxd:=hx.resolve_right RX
   obtain⟨h1,h2⟩:=hlv x hxd hlx
   by_cases hyn:y=H.next
   ·exfalso
    rw[hyn,e1,e0 x hxd]at he
    exact h2 (hS.inj x b hxd hd h1 hlive (.inr hrw) he)
   ·have Mq:=hy.resolve_right hyn
    rw[e0 x hxd,e0 y Mq]at he
    exact hS.inj x y hxd Mq h1 (hlv y Mq hly).1 (hor.imp (PT x hxd) (PT y Mq)) he
 ·intro x hx
  rcases hx with hx|rfl
  ·exact .inl hx
  ·exact .inr (Nat.le_refl _)
 ·intro x hx hn
  rw[hget,if_neg (by omega),if_neg (fun e:x=b=>hn (e▸hd))]
 ·intro x cs' hgx hx
  rw[hget,if_neg (by omega)]
  by_cases hxb:x=b
  ·subst hxb;rw[hg]at hgx;cases hgx
  ·rw[if_neg hxb];exact hgx
 ·intro k _ hk
  exact hat.old k fun e=>hk b hd hrw e.symm
 ·intro x hx hl
  rcases hx with hx|rfl
  ·refine .inr ⟨x,hx,?_,(e0 x hx).symm⟩
   unfold bI at hl ⊢
   rw[hget,if_neg (hne x hx)]at hl
   by_cases hxb:x=b
   ·rw[if_pos hxb]at hl;exact hl.elim
   ·rw[if_neg hxb]at hl;exact hl
  ·exact .inr ⟨b,hd,hrw,e1.symm⟩
theorem Dq {e:TypeId}{size bytes:Nat}{zeros:Bool}{s s' x v:Value}{m:Nat}{news:List Value}{app:Sem (Array Value)}{H':aa}{z:Value}
 (hS:jC R H w) (hs:VR R s s') (hb:y7 P e=some bytes) (hz:fU P e=some z) (hzs:z.cells.size=size)
 (h:aY H size bytes s m news=some (v,H')) {new:Array Value} (hnew: ∀d,app.run P {w with drawn:=d} = .ok new {w with drawn:=d}) (hrel:fE R news new.toList):
 ∃base sLen sCap v' w' R',s' = .slice base sLen sCap∧(CY e size zeros s' base sLen sCap m x app).run P w = .ok v' w'∧VR R' v v'∧jC R' H' w'∧Ext R H w R' H' w':=by
 unfold aY at h
 split at h
 case h_2=>cases h
 rename_i a len cap
 split at h
 case isFalse=>cases h
 rename_i hcond
 obtain⟨hq1,hq2,hq3,hq4,ZT⟩:=hcond
 have hnl:new.size=m*size:=by have:=hrel.length;rw[ZT]at this;simpa using this.symm
 have MX:app.run P w = .ok new w:=hnew w.drawn
 have grow: ∀(base:Option Addr) (sCap:Nat) (qm:List Value) (old:Array Value) (H0:aa),s' = .slice base len sCap→¬ len+m≤sCap→jC R H0 w→Ext R H w R H0 w →
  ((Builtin.firstCells size len s').run P {w with drawn:=w.drawn+1} = .ok old {w with drawn:=w.drawn+1})→fE R qm old.toList→qm.length=len*size →
  v = .slice (some ⟨H0.next,0,none⟩) (len+m) (dY+size)→H'=H0.alloc (.cells (qm++news) false) →
  ∃v' w' R',(CY e size zeros s' base len sCap m x app).run P w = .ok v' w'∧VR R' v v'∧jC R' H' w'∧Ext R H w R' H' w':=by
  intro base sCap qm old H0 hs' hnc hS0 hE0 hold ho hol hv hH
  obtain⟨c,hc,hcU,hrun⟩:=Ub (zeros:=zeros) (s:=s') (x:=x) (base:=base) (size:=size) (sCap:=sCap) (sLen:=len) (m:=m) (P:=P) (app:=app) (old:=old) (new:=new) hnc hb hq3 hz hq1 hq2 hold (hnew _)
  have hos:old.size=len*size:=by have:=ho.length;rw[hol]at this;simpa using this.symm
  let arr:=old++new++Builtin.zeroCells z.cells (c-(len+m))
  have hsz:arr.size=c*size:=by
   simp only[arr,Array.size_append,nT,hos,hnl,hzs]
   rw[←Nat.add_mul,←Nat.add_mul];congr 1;omega
  have hlen:(qm++news).length=(len+m)*size:=by simp[hol,ZT,Nat.add_mul]
  have hnd: ¬ R.dom H0.next:=fun hd=>Nat.lt_irrefl _ (hS0.lt _ hd)
  have hle:R.le (R.add H0.next w.heap.size arr.size (qm++news).length):=Ren.KQ hnd
  have hmul:(len+m)*size≤c*size:=Nat.mul_le_mul_right _ hc
  have hSn:=Km (w':={w with heap:=w.heap.push (.cells arr e),drawn:=w.drawn+1}) (size:=arr.size) (len:=(qm++news).length) (x:=.cells arr e) (hS0.AA (.cells (qm++news) false)) (Nat.lt_succ_self _) hnd (iC H0 _)
   (wX w _ _) (by simp) ⟨by simp[Ren.add],by simp[Ren.add],by simp[Ren.add],by rw[hlen,hsz];exact hmul,by
     have e1:arr.toList.take (qm++news).length=old.toList++new.toList:=by
      have:(qm++news).length=(old.toList++new.toList).length:=by simp[hol,ZT,hos,hnl]
      rw[this]
      simp only[arr,Array.toList_append]
      exact List.take_left
     rw[e1]
     exact(fE.append hrel ho).mono hle,fun j _=>by simp⟩
  subst hv;subst hH
  refine⟨_,_,_,hrun,?_,hSn,hE0.trans (N7 hS0 hle (fun b=>Iff.rfl) (by simp[Ren.add]) (wX w _ _))⟩
  have:=VR.je (R:=R.add H0.next w.heap.size arr.size (qm++news).length) H0.next 0 (len+m) c size (.inr rfl) hq4 hc (.inr hcU) (by simp only[Ren.add,if_true];omega) (by simp only[Ren.add,if_true];omega)
  simpa[Ren.add]using this
 by_cases hm0:m=0
 ·
  subst hm0
  rw[if_pos rfl]at h
  split at h
  case isFalse=>cases h
  rename_i hlc
  simp only[Option.some.injEq,Prod.mk.injEq]at h
  obtain⟨rfl,rfl⟩:=h
  have hne:new = #[]:=by apply Array.eq_empty_of_size_eq_zero;rw[hnl];simp
  subst hne
  obtain⟨base,sCap,hs',hcap⟩: ∃base sCap,s' = .slice base len sCap∧len≤sCap:=by
   cases hs with
   |vk=>exact⟨_,_,rfl,hlc⟩
   |fP=>exact⟨_,_,rfl,hlc⟩
   |mO=>exact⟨_,_,rfl,hlc⟩
   |je _ _ _ _ _ _ _ hl _=>exact⟨_,_,rfl,hl⟩
   |kL=>exact⟨_,_,rfl,Nat.le_refl _⟩
  refine⟨base,len,sCap,s',w,R,hs',?_,hs,hS,Ext.refl _ _ _⟩
  rw[EJ (by omega),MX]
  subst hs'
  cases base <;> rfl
 rw[if_neg hm0]at h
 split at h
 ·
  split at h
  case isFalse=>cases h
  rename_i hlc
  obtain⟨rfl,rfl⟩:=hlc
  simp only[Option.some.injEq,Prod.mk.injEq]at h
  obtain⟨rfl,rfl⟩:=h
  obtain⟨hs',_,_⟩:=hs.Az
  have:=grow none 0 [] #[] H hs' (by omega) hS (Ext.refl _ _ _) (by subst hs';rfl) .nil (by simp) (by simp) (by simp)
  obtain⟨v',w',R',h1,h2,h3,h4⟩:=this
  exact⟨none,0,0,v',w',R',hs',h1,h2,h3,h4⟩
 ·rename_i b o
  obtain⟨hd,_,_⟩:=hs.iM
  split at h
  ·
   rename_i hin
   cases hst:H.aK b (o+len*size) news with
   |none=>rw[hst]at h;simp at h
   |some H1=>
    rw[hst]at h
    simp only[Option.map_some,Option.some.injEq,Prod.mk.injEq]at h
    obtain⟨rfl,rfl⟩:=h
    obtain⟨w',h1,h2,h3⟩:=hS.aK hd hst hrel P
    have hs2:s' = .slice (some ⟨R.blk b,R.base b+o,none⟩) len cap:=by
     cases hs with
     |fP=>rfl
     |mO=>exfalso;omega
     |je=>exfalso;unfold dY at hin;omega
     |kL=>exfalso;unfold dY at hin;omega
    refine⟨_,len,cap,.slice (some ⟨R.blk b,R.base b+o,none⟩) (len+m) cap,w',R,hs2,?_,.fP b o _ _ hd hin.1,h2,h3⟩
    rw[EJ hin.2,MX]
    simp only[Result.andThen_ok,add_lit]
    rw[Nat.add_assoc,h1]
    rfl
  ·rename_i hin
   split at h
   case h_2=>cases h
   rename_i qm hfi
   have EK:qm.length=len*size:=by
    simp only[aZ]at hfi
    split at hfi
    ·rename_i h0;injection hfi with hfi;subst hfi;simp[h0]
    ·unfold aa.aP at hfi
     split at hfi
     ·split at hfi
      ·injection hfi with hfi;subst hfi;simp;omega
      ·cases hfi
     ·cases hfi
   obtain⟨old,qa6,ho⟩:=Gx (P:=P) hS hs (fun q hq=>by simp[bG]at hq;omega) hfi
   have hold:=qa6 (w.drawn+1)
   split at h
   ·
    rename_i Aw
    simp only[Option.some.injEq,Prod.mk.injEq]at h
    obtain⟨rfl,rfl⟩:=h
    obtain⟨base,sCap,hs2,hnc⟩: ∃base sCap,s' = .slice base len sCap∧¬ len+m≤sCap:=by
     cases hs with
     |fP=>exact⟨_,_,rfl,fun hq=>hin ⟨Aw,hq⟩⟩
     |mO=>exact⟨_,_,rfl,by omega⟩
     |je=>exfalso;unfold dY at Aw;omega
     |kL=>exfalso;unfold dY at Aw;omega
    obtain⟨v',w',R',h1,h2,h3,h4⟩:=grow base sCap qm old H hs2 hnc hS (Ext.refl _ _ _) hold ho EK rfl rfl
    exact⟨base,len,sCap,v',w',R',hs2,h1,h2,h3,h4⟩
   ·rename_i Aw
    split at h
    case isFalse=>cases h
    rename_i hce
    split at h
    case h_2=>cases h
    rename_i cs hg
    split at h
    case isFalse=>cases h
    rename_i hone
    split at h
    ·
     rename_i hfit
     simp only[Option.some.injEq,Prod.mk.injEq]at h
     obtain⟨rfl,rfl⟩:=h
     have hst:H.aK b (o+len*size) news=some (H.set b (.cells (putAt cs (o+len*size) news) false)):=by
      unfold aa.aK
      rw[hg]
      simp only[]
      rw[if_pos ⟨by rw[ZT,Nat.add_assoc,←Nat.add_mul];exact hfit,hone⟩]
     obtain⟨w',h1,h2,h3⟩:=hS.aK hd hst hrel P
     have qa7:cs.length=R.len b:=by have ho':=hS.obj b hd;rw[hg]at ho';exact ho'.1
     cases hs with
     |fP _ _ _ _ _ hcc=>exact absurd hcc Aw
     |mO=>exact absurd (by unfold dY;omega) Aw
     |je _ _ _ c e' _ he hl hcU k1 k2=>
      obtain rfl:size=e':=by omega
      have hlc:len+m≤c:=by
       have:(len+m)*size≤c*size:=by omega
       exact Nat.le_of_mul_le_mul_right this hq4
      refine⟨_,len,c,.slice (some ⟨R.blk b,R.base b+o,none⟩) (len+m) c,w',R,rfl,?_,.je b o _ _ _ hd he hlc hcU k1 k2,h2,h3⟩
      rw[EJ hlc,MX]
      simp only[Result.andThen_ok,add_lit]
      rw[Nat.add_assoc,h1]
      rfl
     |kL _ _ e' _ _ he k1=>
      obtain rfl:size=e':=by omega
      exfalso
      have:1≤(0+m)*size:=Nat.mul_pos (by omega) hq4
      omega
    ·rename_i hfit
     split at h
     case isFalse=>cases h
     rename_i hoc
     simp only[Option.some.injEq,Prod.mk.injEq]at h
     obtain⟨rfl,rfl⟩:=h
     obtain⟨hSk,hEk⟩:=VA hS hd hg
     have qa7:cs.length=R.len b:=by have ho':=hS.obj b hd;rw[hg]at ho';exact ho'.1
     cases hs with
     |fP _ _ _ _ _ hcc=>exact absurd hcc Aw
     |mO=>exact absurd (by unfold dY;omega) Aw
     |kL _ _ e' a' _ he k1=>
      obtain rfl:size=e':=by omega
      obtain⟨v',w',R',h1,h2,h3,h4⟩:=grow (some a') 0 qm old _ rfl (by omega) hSk hEk hold ho EK rfl rfl
      exact⟨_,0,0,v',w',R',rfl,h1,h2,h3,h4⟩
     |je _ _ _ c e' _ he hl hcU k1 k2=>
      obtain rfl:size=e':=by omega
      by_cases hlc:len+m≤c
      ·obtain⟨w',R',h1,h2,h3,h4⟩:=RV (P:=P) hS hd hg hq4 hone hrel ZT k1 k2 hlc hcU hfi EK hoc
       refine⟨_,len,c,.slice (some ⟨R.blk b,R.base b+o,none⟩) (len+m) c,w',R',rfl,?_,h2,h3,h4⟩
       rw[EJ hlc,MX]
       simp only[Result.andThen_ok,add_lit]
       rw[h1]
       rfl
      ·obtain⟨v',w',R',h1,h2,h3,h4⟩:=grow _ c qm old _ rfl hlc hSk hEk hold ho EK rfl rfl
       exact⟨_,len,c,v',w',R',rfl,h1,h2,h3,h4⟩
 ·cases h
end
end
section
section
variable {P:Program} {n:Nat} {R:Ren} {H:aa} {w:World} {T:Env} {a:Act}
def ZU (P:Program)(R:Ren)(H:aa)(w:World)(s:Sem Next)(v:Value)(H':aa):Prop:=
 ∃v' w' R',(s.run P w = .ok (.value v') w'∨(s.run P w = .ok .skip w'∧v'=undef))∧VR R' v v'∧jC R' H' w'∧Ext R H w R' H' w'
theorem append_eq {tys:Array TypeId}{ty t u e:TypeId}{s' x':Value}{size:Nat}{base:Option Addr}{sLen sCap m:Nat}{d:TypeDesc}
 (hty:tys = #[t,u]) (hu:P.underlying t=some (.slice e)) (hs:bq P e=some size) (hd:P.underlying u=some d) (hnz: ∀k,d ≠ .int k) (hs':s' = .slice base sLen sCap)
 (hlen: ∀w,(Builtin.lenOf x').run P w = .ok m w) (w:World):
 (Builtin.append_ tys ty #[s',x']).run P w=(CY e size false s' base sLen sCap m x' (Builtin.firstCells size m x')).run P w:=by
 subst hty;subst hs'
 unfold Builtin.append_ CY
 simp only[List.getElem?_toArray,List.getElem?_cons_zero,List.getElem?_cons_succ,Sem.run_bind,aJ hu,Result.andThen_ok,dN hs,aJ hd]
 cases d <;> first|exact absurd rfl (hnz _)|skip
 all_goals
  simp only[Sem.run_pure,Result.andThen_ok]
  rw[if_neg (by decide)]
  simp only[Sem.run_bind,hlen,Result.andThen_ok]
  rfl
def EL (e:TypeId)(size m:Nat)(x:Value):Sem (Array Value):=
 if (!true)=true then Builtin.firstCells size m x
 else if m*size=0 then pure #[]
 else do pure (Builtin.zeroCells (←zeroValue e).cells m)
theorem RY {tys:Array TypeId}{ty t u e:TypeId}{s':Value}{size bytes:Nat}{base:Option Addr}{sLen sCap:Nat}{k kx:IntKind}{q:Int}
 (hty:tys = #[t,u]) (hu:P.underlying t=some (.slice e)) (hs:bq P e=some size) (hb:y7 P e=some bytes) (hd:P.underlying u=some (.int k)) (hs':s' = .slice base sLen sCap)
 (h0:0≤q) (h1:q≤17592186044416) (h2:q*bytes≤17592186044416) (w:World):
 (Builtin.append_ tys ty #[s',.int kx q]).run P w=(CY e size true s' base sLen sCap q.toNat (.int kx q) (EL e size q.toNat (.int kx q))).run P w:=by
 subst hty;subst hs'
 obtain⟨i,hi,hib⟩: ∃i,P.info? e=some i∧i.bytes=bytes:=by
  unfold y7 at hb
  cases hi:P.info? e with
  |none=>simp[hi]at hb
  |some i=>simp[hi]at hb;exact⟨i,rfl,hb⟩
 have hwl:IntKind.i64.wrap q=q:=by simp[IntKind.wrap,IntKind.bits,IntKind.signed];omega
 unfold Builtin.append_ CY
 simp only[List.getElem?_toArray,List.getElem?_cons_zero,List.getElem?_cons_succ,Sem.run_bind,aJ hu,Result.andThen_ok,dN hs,aJ hd]
 simp only[asInt,asIntOf,pure_bind,hwl,Sem.run_pure,Result.andThen_ok,if_true]
 rw[if_neg (by omega)]
 simp only[Sem.run_bind,run_typeInfo hi,Result.andThen_ok,hib]
 rw[if_neg (by omega)]
 rfl
theorem iD {dst:Option Tmp}{b:Builtin}{args:Array Operand}{tys:Array TypeId}{ty:TypeId}{pos:String}{after:Array Edge}{g:Option (Nat×Bool)}{x:Sem Value}{v':Value}{w':World}
 (hb: ∀cs,builtin b tys ty cs (args.map a.eval)=(do pure (.value (←x)))) (hx:x.run P w = .ok v' w'):
 (execOp a.eval ⟨dst,.call ⟨.builtin b,args,tys⟩,ty,pos,after,g⟩).run P w = .ok (.value v') w':=by
 show(builtin b tys ty _ (args.map a.eval)).run P w=_
 rw[hb]
 simp[hx]
theorem MZ {s s':Value}{m:Nat}(hv:VR R s s')(h:bG s=some m)(w:World):(Builtin.lenOf s').run P w = .ok m w:=by
 unfold bG at h
 split at h
 ·injection h with h;subst h
  obtain⟨x',c',rfl⟩:=hv.Ay
  rfl
 ·cases h
theorem Dr {r cl cl2:Nat}{es es2:List MapEntry}{es' Mr:Array MapEntry}(hS:jC R H w)(hd:R.dom r)(hg:H.get r=some (.map es cl))(hw:w.heap[R.blk r]? =some (.map es' cl))
 (h2:dz R es2 Mr.toList) (P:Program): ∃w',(setObj (R.blk r) (.map Mr cl2)).run P w = .ok () w'∧jC R (H.set r (.map es2 cl2)) w'∧Ext R H w R (H.set r (.map es2 cl2)) w':=by
 have hlt:R.blk r<w.heap.size:=(Array.getElem?_eq_some_iff.1 hw).1
 refine⟨{w with heap:=w.heap.setIfInBounds (R.blk r) (.map Mr cl2)},by simp[setObj,Sem.run,hw],?_⟩
 refine NZ hS hd hg (by unfold live;rw[hg];trivial) (by unfold bI;rw[hg];trivial) ⟨by simp,fun j hj=> ?_,rfl,rfl,rfl⟩ ⟨Mr,by simp[hlt],h2⟩ (by simp)
 have:R.blk r≠j:=fun e=>hj e.symm
 simp[Array.getElem?_setIfInBounds_ne this]
theorem KR {dst:Option Tmp}{b:Builtin}{args:Array Operand}{tys:Array TypeId}{ty:TypeId}{pos:String}{after:Array Edge}{g:Option (Nat×Bool)}{io:bZ}{v:Value}{H':aa}
 (hS:jC R H w) (hT:kY n R T a.tmps) (hok:uw (Op.call ⟨.builtin b,args,tys⟩).operands.toList=true)
 (hc:jv P (.call ⟨.builtin b,args,tys⟩) ty b tys.toList args.toList=some io) (h:kZ P T H io=some (v,H')):
 ZU P R H w (execOp a.eval ⟨dst,.call ⟨.builtin b,args,tys⟩,ty,pos,after,g⟩) v H':=by
 unfold jv at hc
 split at hc
 ·exfalso
  split at hc <;> first|(injection hc with hc;subst hc;cases h)|(split at hc <;> first|(injection hc with hc;subst hc;cases h)|cases hc)
 ·exfalso
  split at hc <;> first|(injection hc with hc;subst hc;cases h)|cases hc
 ·
  rename_i t u s x hty hxs
  have hty':=PS hty
  have KP:=PS hxs
  subst hty';subst KP
  have hrs:=bz hT (aL hok (x:=s) (by simp[Op.operands,Call.operands]))
  have hrx:=bz hT (aL hok (x:=x) (by simp[Op.operands,Call.operands]))
  split at hc
  case h_2=>cases hc
  rename_i e hu
  split at hc
  ·rename_i e2 size bytes z hu2 hs hb hz
   split at hc
   case isFalse=>cases hc
   rename_i hzs
   injection hc with hc;subst hc
   simp only[kZ]at h
   split at h
   case h_2=>cases h
   rename_i m hm
   cases hf:aZ H size m (ev T x)with
   |none=>rw[hf]at h;simp at h
   |some news=>
    rw[hf]at h
    simp only[Option.bind_some]at h
    obtain⟨new,hnew,hrel⟩:=Gx (P:=P) hS hrx (fun q hq=>by rw[hm]at hq;injection hq with hq;omega) hf
    obtain⟨base,sLen,sCap,v',w',R',h1,h2,h3,h4,h5⟩:=Dq (zeros:=false) (x:=a.eval x) hS hrs hb hz hzs h hnew hrel
    refine⟨v',w',R',.inl (iD (fun cs=>rfl) ?_),h3,h4,h5⟩
    have:=append_eq (ty:=ty) (x':=a.eval x) rfl hu hs hu2 (by simp) h1 (fun w=>MZ hrx hm w) w
    simp only[List.map_toArray,List.map_cons,List.map_nil]
    rw[this]
    exact h2
  ·rename_i z hu2 hs hb hz
   split at hc
   case isFalse=>cases hc
   rename_i hzs
   injection hc with hc;subst hc
   simp only[kZ]at h
   split at h
   case h_2=>cases h
   rename_i tx hx
   rw[hx]at hrx
   have hxv:=hrx.RH
   have hnew: ∀d,(Builtin.firstCells 1 tx.size (a.eval x)).run P {w with drawn:=d} = .ok (tx.data.map fun b=>Value.int .u8 b.toNat) {w with drawn:=d}:=by
    intro d
    rw[hxv]
    simp only[Builtin.firstCells]
    have:tx.extract 0 tx.size=tx:=by simp
    rw[this]
    rfl
   obtain⟨base,sLen,sCap,v',w',R',h1,h2,h3,h4,h5⟩:=Dq (zeros:=false) (x:=a.eval x) (new:=tx.data.map fun b=>Value.int .u8 b.toNat) hS hrs hb hz hzs h hnew
    (by rw[Array.toList_map];exact fE.NW _ fun y hy=>by obtain⟨q,_,rfl⟩:=List.mem_map.1 hy;exact .int _ _)
   refine⟨v',w',R',.inl (iD (fun cs=>rfl) ?_),h3,h4,h5⟩
   have:=append_eq (ty:=ty) (x':=a.eval x) (m:=tx.size) rfl hu hs hu2 (by simp) h1 (fun w=>by rw[hxv];rfl) w
   simp only[List.map_toArray,List.map_cons,List.map_nil]
   rw[this]
   exact h2
  ·rename_i k size bytes z hu2 hs hb hz
   split at hc
   case isFalse=>cases hc
   rename_i hzs
   injection hc with hc;subst hc
   simp only[kZ]at h
   split at h
   case h_2=>cases h
   rename_i kx q hx
   rw[hx]at hrx
   have hxv:=hrx.qY
   split at h
   case isFalse=>cases h
   rename_i hq
   have hzl:z.cells.toList.length=size:=by simpa using hzs
   rw[hzl]at h
   have EF:=fun w=>(jU (P:=P) hz w)
   have hnew: ∀d,(EL e size q.toNat (.int kx q)).run P {w with drawn:=d} = .ok (Builtin.zeroCells z.cells q.toNat) {w with drawn:=d}:=by
    intro d
    unfold EL
    rw[if_neg (by decide)]
    by_cases h0:q.toNat*size=0
    ·rw[if_pos h0]
     have:Builtin.zeroCells z.cells q.toNat = #[]:=by apply Array.eq_empty_of_size_eq_zero;rw[nT,hzs];exact h0
     rw[this]
     rfl
    ·rw[if_neg h0]
     simp only[Sem.run_bind,(EF _).1,Result.andThen_ok,Sem.run_pure]
   obtain⟨base,sLen,sCap,v',w',R',h1,h2,h3,h4,h5⟩:=Dq (zeros:=true) (x:=.int kx q) (app:=EL e size q.toNat (.int kx q)) hS hrs hb hz hzs h hnew (by simpa using CZ R (EF w).2 q.toNat)
   refine⟨v',w',R',.inl (iD (fun cs=>rfl) ?_),h3,h4,h5⟩
   have:=RY (ty:=ty) (kx:=kx) (q:=q) rfl hu hs hb hu2 h1 hq.1 hq.2.2 hq.2.1 w
   simp only[List.map_toArray,List.map_cons,List.map_nil,hxv]
   rw[this]
   exact h2
  ·cases hc
 ·
  rename_i t u d s hty hxs
  have hty':=PS hty
  have KP:=PS hxs
  subst hty';subst KP
  have hrd:=bz hT (aL hok (x:=d) (by simp[Op.operands,Call.operands]))
  have hrs:=bz hT (aL hok (x:=s) (by simp[Op.operands,Call.operands]))
  split at hc
  case h_2=>cases hc
  rename_i e e2 hu hu2
  cases hsz:bq P e with
  |none=>simp[hsz]at hc
  |some size=>
   simp only[hsz,Option.map_some,Option.some.injEq]at hc
   subst hc
   simp only[kZ]at h
   split at h
   case h_2=>cases h
   rename_i ad dl cp sl hd hl
   rw[hd]at hrd
   cases hf:aZ H size (Nat.min sl dl) (ev T s)with
   |none=>rw[hf]at h;simp at h
   |some cs=>
    rw[hf]at h
    simp only[Option.bind_some]at h
    obtain⟨new,MX,hrel⟩:=Gx (P:=P) hS hrs (fun q hq=>by rw[hl]at hq;injection hq with hq;subst hq;exact Nat.min_le_left _ _) hf
    have hnew:=MX w.drawn
    have hrun: ∀(base:Option Addr) (c':Nat),a.eval d = .slice base dl c'→∀w',((match base with|some a=>storeCells a new.toList|none=>pure ():Sem Unit).run P w = .ok () w') →
     (execOp a.eval ⟨dst,.call ⟨.builtin .copy,#[d,s],#[t,u]⟩,ty,pos,after,g⟩).run P w = .ok (.value (.int .i64 (Nat.min sl dl:Nat))) w':=by
     intro base c' hb w' hst
     refine iD (fun cs=>rfl) ?_
     simp only[List.map_toArray,List.map_cons,List.map_nil,Builtin.copy_,List.getElem?_toArray,List.getElem?_cons_zero,List.getElem?_cons_succ,Sem.run_bind,aJ hu,Result.andThen_ok,hb,MZ hrs hl,dN hsz]
     have hnw:(Builtin.firstCells size (Nat.min sl dl) (a.eval s)).run P w = .ok new w:=hnew
     rw[hnw]
     simp only[Result.andThen_ok]
     cases base with
     |none=>simp at hst;subst hst;rfl
     |some x=>
      simp only[Sem.run_bind]
      rw[hst]
      rfl
    split at h
    ·rename_i h0
     simp only[Option.some.injEq,Prod.mk.injEq]at h
     obtain⟨rfl,rfl⟩:=h
     have hne:new = #[]:=by
      apply Array.eq_empty_of_size_eq_zero
      have:=hrel.length
      rw[h0]at this;simpa using this.symm
     obtain⟨base,c',hb⟩:=hrd.Ay
     refine⟨_,w,R,.inl (hrun base c' hb w ?_),.int _ _,hS,Ext.refl _ _ _⟩
     subst hne
     cases base <;> rfl
    ·rename_i h0
     split at h
     case h_2=>cases h
     rename_i b o
     cases hst:H.aK b o cs with
     |none=>rw[hst]at h;simp at h
     |some H1=>
      rw[hst]at h
      simp only[Option.map_some,Option.some.injEq,Prod.mk.injEq]at h
      obtain⟨rfl,rfl⟩:=h
      obtain⟨hdd,_,hcase⟩:=hrd.iM
      obtain⟨w',k1,k2,k3⟩:=hS.aK hdd hst hrel P
      rcases hcase with⟨c',hb⟩|⟨hl0,a',hb⟩
      ·exact⟨_,w',R,.inl (hrun _ c' hb w' k1),.int _ _,k2,k3⟩
      ·exfalso
       subst hl0
       apply h0
       have:cs.length=Nat.min sl 0*size:=by
        unfold aZ at hf
        split at hf
        ·injection hf with hf;subst hf;simp
        ·split at hf
         ·injection hf with hf;subst hf;simp
         ·rename_i hn;exact absurd (by simp) hn
        ·cases hf
       rw[this];simp
 ·
  rename_i t x hty hxs
  have hty':=T9 hty
  have KP:=T9 hxs
  subst hty';subst KP
  have hrx:=bz hT (aL hok (x:=x) (by simp[Op.operands,Call.operands]))
  split at hc
  case h_2=>cases hc
  rename_i e hu
  cases hz:fU P e with
  |none=>simp[hz]at hc
  |some z=>
   simp only[hz,Option.bind_some]at hc
   split at hc
   case isFalse=>cases hc
   rename_i hzn
   injection hc with hc;subst hc
   simp only[kZ]at h
   have EF:=jU hz w
   split at h
   ·rename_i ln cp hx
    rw[hx]at hrx
    simp only[Option.some.injEq,Prod.mk.injEq]at h
    obtain⟨rfl,rfl⟩:=h
    obtain⟨hv,_,_⟩:=hrx.Az
    refine⟨.tuple #[],w,R,.inl (iD (fun cs=>rfl) ?_),.tuple _ _ .nil,hS,Ext.refl _ _ _⟩
    simp[Builtin.clear_,aJ hu,hv]
   ·rename_i b o ln cp hx
    rw[hx]at hrx
    obtain⟨hdd,_,hcase⟩:=hrx.iM
    split at h
    ·rename_i h0
     subst h0
     simp only[Option.some.injEq,Prod.mk.injEq]at h
     obtain⟨rfl,rfl⟩:=h
     obtain⟨base,c',hv⟩:=hrx.Ay
     refine⟨.tuple #[],w,R,.inl (iD (fun cs=>rfl) ?_),.tuple _ _ .nil,hS,Ext.refl _ _ _⟩
     cases base <;> simp[Builtin.clear_,aJ hu,hv]
    ·rename_i h0
     cases hst:H.aK b o (Builtin.zeroCells z.cells.toList.toArray ln).toList with
     |none=>rw[hst]at h;simp at h
     |some H1=>
      rw[hst]at h
      simp only[Option.map_some,Option.some.injEq,Prod.mk.injEq]at h
      obtain⟨rfl,rfl⟩:=h
      obtain⟨w',k1,k2,k3⟩:=hS.aK hdd hst (CZ R EF.2 ln) P
      rcases hcase with⟨c',hv⟩|⟨hl0,_⟩
      ·refine⟨.tuple #[],w',R,.inl (iD (fun cs=>rfl) ?_),.tuple _ _ .nil,k2,k3⟩
       simp only[List.map_toArray,List.map_cons,List.map_nil,Builtin.clear_,List.getElem?_toArray,List.getElem?_cons_zero,Sem.run_bind,aJ hu,Result.andThen_ok,hv]
       cases ln with
       |zero=>exact absurd rfl h0
       |succ m=>
        simp only[Sem.run_bind,EF.1,Result.andThen_ok]
        have k1':(storeCells ⟨R.blk b,R.base b+o,none⟩ (Builtin.zeroCells z.cells (m+1)).toList).run P w = .ok () w':=by simpa using k1
        rw[k1']
        rfl
      ·exact absurd hl0 h0
   ·cases h
 ·
  rename_i t t2 m k hty hxs
  have hty':=PS hty
  have KP:=PS hxs
  subst hty';subst KP
  have hrm:=bz hT (aL hok (x:=m) (by simp[Op.operands,Call.operands]))
  have hrk:=bz hT (aL hok (x:=k) (by simp[Op.operands,Call.operands]))
  split at hc
  case h_2=>cases hc
  rename_i kt e hu
  injection hc with hc;subst hc
  simp only[kZ]at h
  split at h
  case h_2=>cases h
  rename_i r hm
  rw[hm]at hrm
  split at h
  case h_2=>cases h
  rename_i es cl hg
  split at h
  case isFalse=>cases h
  rename_i hko
  obtain⟨hk1,hk2,hk3,hk4,d,hd⟩:=Dp hko
  have hkk:a.eval k=ev T k:=hrk.wV hk1
  obtain⟨hmv,hdr⟩:a.eval m = .map (some (R.blk r))∧R.dom r:=by
   cases hq:a.eval m <;> rw[hq]at hrm <;> cases hrm
   exact⟨rfl,by assumption⟩
  have ho:=hS.obj r hdr
  rw[hg]at ho
  obtain⟨es',hw,hrel⟩:=ho
  have hset: ∀es2 (Mr:Array MapEntry),dz R es2 Mr.toList→∃w',(setObj (R.blk r) (.map Mr cl)).run P w = .ok () w'∧jC R (H.set r (.map es2 cl)) w'∧Ext R H w R (H.set r (.map es2 cl)) w':=
   fun es2 Mr h2=>Dr hS hdr hg hw h2 P
  split at h
  ·rename_i i hfi
   simp only[Option.some.injEq,Prod.mk.injEq]at h
   obtain⟨rfl,rfl⟩:=h
   obtain⟨h1,h2⟩:=vC (P:=P) (w:=w) hd hrel hk2 hfi
   have hi:=h2 i rfl
   have hi':i<es'.size:=by simpa using hi
   obtain⟨w',k1,k2,k3⟩:=hset (es.eraseIdx i) (es'.eraseIdxIfInBounds i) (by
    have:=dz.erase hrel i
    rw[Array.eraseIdxIfInBounds,dif_pos hi',Array.toList_eraseIdx]
    exact this)
   refine⟨.tuple #[],w',R,.inl (iD (fun cs=>rfl) ?_),.tuple _ _ .nil,k2,k3⟩
   simp only[List.map_toArray,List.map_cons,List.map_nil,Builtin.delete_,List.getElem?_toArray,List.getElem?_cons_zero,List.getElem?_cons_succ,Sem.run_bind,aJ hu,Result.andThen_ok,hmv,hkk,jD P hw]
   rw[hrel.isEmpty,hk3]
   simp only[Result.andThen_ok]
   rw[h1]
   have hge:es'.toList[i]? =some es'[i]:=by simp[hi']
   simp only[Option.bind_some,hge,Option.map_some,Result.andThen_ok,Sem.run_bind,k1,Sem.run_pure]
  ·rename_i hfi
   simp only[Option.some.injEq,Prod.mk.injEq]at h
   obtain⟨rfl,rfl⟩:=h
   obtain⟨h1,h2⟩:=vC (P:=P) (w:=w) hd hrel hk2 hfi
   obtain⟨w',k1,k2,k3⟩:=hset es es' hrel
   refine⟨.tuple #[],w',R,.inl (iD (fun cs=>rfl) ?_),.tuple _ _ .nil,k2,k3⟩
   simp only[List.map_toArray,List.map_cons,List.map_nil,Builtin.delete_,List.getElem?_toArray,List.getElem?_cons_zero,List.getElem?_cons_succ,Sem.run_bind,aJ hu,Result.andThen_ok,hmv,hkk,jD P hw]
   rw[hrel.isEmpty,hk3]
   simp only[Result.andThen_ok]
   rw[h1]
   simp only[Option.bind_none,Result.andThen_ok,Sem.run_bind,k1,Sem.run_pure]
  ·cases h
 all_goals first|(injection hc with hc;subst hc;cases h)|cases hc
theorem C8 {t kt e:TypeId}{m k x:Operand}{v:Value}{H':aa}(hS:jC R H w)(hT:kY n R T a.tmps)(hu:P.underlying t=some (.map kt e))
 (XN:okO m=true) (hok:okO k=true) (hox:okO x=true) (h:kZ P T H (.mapUpdate kt m k x)=some (v,H')):
 ∃w',(Instr.mapUpdate t (a.eval m) (a.eval k) (a.eval x)).run P w = .ok () w'∧v=undef∧jC R H' w'∧Ext R H w R H' w':=by
 have hrm:=bz hT XN
 have hrk:=bz hT hok
 have hrx:=bz hT hox
 simp only[kZ]at h
 split at h
 case h_2=>cases h
 rename_i r hm
 rw[hm]at hrm
 split at h
 case h_2=>cases h
 rename_i es cl hg
 split at h
 case isFalse=>cases h
 rename_i hko
 obtain⟨hk1,hk2,hk3,hk4,d,hd⟩:=Dp hko
 have hkk:a.eval k=ev T k:=hrk.wV hk1
 obtain⟨hmv,hdr⟩:a.eval m = .map (some (R.blk r))∧R.dom r:=by
  cases hq:a.eval m <;> rw[hq]at hrm <;> cases hrm
  exact⟨rfl,by assumption⟩
 have ho:=hS.obj r hdr
 rw[hg]at ho
 obtain⟨es',hw,hrel⟩:=ho
 split at h
 ·rename_i i hfi
  split at h
  case isFalse=>cases h
  rename_i hsb
  simp only[Option.some.injEq,Prod.mk.injEq]at h
  obtain⟨rfl,rfl⟩:=h
  obtain⟨h1,h2⟩:=vC (P:=P) (w:=w) hd hrel hk2 hfi
  have hi:=h2 i rfl
  have hi':i<es'.size:=by simpa using hi
  have hie:i<es.length:=by rw[hrel.length];exact hi
  obtain⟨w',k1,k2,k3⟩:=Dr (es2:=es.modify i fun e=>{e with key:=ev T k,val:=ev T x}) (Mr:=es'.modify i fun e=>{e with key:=ev T k,val:=a.eval x}) (cl2:=cl) hS hdr hg hw (by
   rw[Array.toList_modify]
   exact dz.modify (f:=fun e=>{e with key:=ev T k,val:=ev T x}) (f':=fun e=>{e with key:=ev T k,val:=a.eval x}) (fun e e' he=>⟨VR.NT R hk1,hrx,he.born⟩) hrel i) P
  refine⟨w',?_,rfl,k2,k3⟩
  have hge:es'.toList[i]? =some es'[i]:=by simp[hi']
  have hke:(((es'[i]?).map (·.key)).getD (ev T k))=(((es[i]?).map (·.key)).getD (ev T k)):=by
   obtain⟨e2,he2,her⟩:=hrel.get i es[i] (by simp[hie])
   have h3:es'[i]? =some e2:=by simpa using he2
   rw[h3]
   simp only[Option.map_some,Option.getD_some]
   rw[show es[i]? =some es[i]by simp[hie]]
   simp only[Option.map_some,Option.getD_some]
   exact her.key.wV (hk2 _ (List.getElem_mem hie))
  simp only[Instr.mapUpdate,Sem.run_bind,aJ hu,Result.andThen_ok,hmv,hkk,jD P hw]
  rw[hk4]
  simp only[Result.andThen_ok]
  rw[h1]
  simp only[Option.bind_some,hge,Option.map_some,Result.andThen_ok,Sem.run_bind,Instr.keyThatStays,hke,hsb,if_true,Sem.run_pure]
  exact k1
 ·rename_i hfi
  simp only[Option.some.injEq,Prod.mk.injEq]at h
  obtain⟨rfl,rfl⟩:=h
  obtain⟨h1,h2⟩:=vC (P:=P) (w:=w) hd hrel hk2 hfi
  obtain⟨w',k1,k2,k3⟩:=Dr (es2:=es++[{key:=ev T k,val:=ev T x,born:=cl}]) (Mr:=es'.push {key:=ev T k,val:=a.eval x,born:=cl}) (cl2:=cl+1) hS hdr hg hw (by
   rw[Array.toList_push]
   exact dz.append (.cons (e:={key:=ev T k,val:=ev T x,born:=cl}) (e':={key:=ev T k,val:=a.eval x,born:=cl}) ⟨VR.NT R hk1,hrx,rfl⟩ .nil) hrel) P
  refine⟨w',?_,rfl,k2,k3⟩
  simp only[Instr.mapUpdate,Sem.run_bind,aJ hu,Result.andThen_ok,hmv,hkk,jD P hw]
  rw[hk4]
  simp only[Result.andThen_ok]
  rw[h1]
  simp only[Option.bind_none,Result.andThen_ok]
  exact k1
 ·cases h
theorem qaf {o:Oper}{io:bZ}{v:Value}{H':aa}(hS:jC R H w)(hT:kY n R T a.tmps)(hc:lW P o=some io)(h:kZ P T H io=some (v,H')):ZU P R H w (execOp a.eval o) v H':=by
 unfold lW at hc
 split at hc
 ·cases hc
 rename_i hok
 have hok:uw o.op.operands.toList=true:=by cases hq:uw o.op.operands.toList with|true=>rfl|false=>exact absurd hq hok
 obtain⟨dst,op,ty,pos,after,g⟩:=o
 simp only at hc hok
 cases op with
 |store t x y=>
  simp only[]at hc
  cases hsz:bq P t with
  |none=>simp[hsz]at hc
  |some m=>
   simp only[hsz,Option.map_some,Option.some.injEq]at hc
   subst hc
   have hrx:=bz hT (aL hok (x:=x) (by simp[Op.operands]))
   have hry:=bz hT (aL hok (x:=y) (by simp[Op.operands]))
   simp only[kZ]at h
   split at h
   ·rename_i b o he
    rw[he]at hrx
    obtain⟨hx,hd⟩:=hrx.qc
    split at h
    ·rename_i hln
     cases hst:H.aK b o (ev T y).cells.toList with
     |none=>rw[hst]at h;simp at h
     |some H1=>
      rw[hst]at h
      simp only[Option.map_some,Option.some.injEq,Prod.mk.injEq]at h
      obtain⟨rfl,rfl⟩:=h
      obtain⟨w',k1,k2,k3⟩:=hS.aK hd hst hry.cells P
      refine⟨undef,w',R,.inr ⟨?_,rfl⟩,VR.undef R,k2,k3⟩
      have hsz':(a.eval y).cells.size=m:=by have:=hry.cells.length;simp only[Array.length_toList]at this hln;omega
      simp only[execOp,Instr.storeAt,hx,Instr.sureAddr,pure_bind,storeVar,Sem.run_bind,dN hsz,Result.andThen_ok,hsz']
      rw[if_neg (by simp)]
      rw[k1]
      rfl
    ·cases h
   ·cases h
 |mapUpdate t m k x=>
  simp only[]at hc
  split at hc
  ·rename_i kt e hu
   injection hc with hc;subst hc
   obtain⟨w',k1,rfl,k2,k3⟩:=C8 hS hT hu (aL hok (by simp[Op.operands])) (aL hok (by simp[Op.operands])) (aL hok (by simp[Op.operands])) h
   refine⟨undef,w',R,.inr ⟨?_,rfl⟩,VR.undef R,k2,k3⟩
   simp only[execOp,Sem.run_bind,k1,Result.andThen_ok,Sem.run_pure]
  ·cases hc
 |insert t m k x=>
  simp only[]at hc
  split at hc
  ·rename_i kt e hu
   injection hc with hc;subst hc
   obtain⟨w',k1,rfl,k2,k3⟩:=C8 hS hT hu (aL hok (by simp[Op.operands])) (aL hok (by simp[Op.operands])) (aL hok (by simp[Op.operands])) h
   refine⟨undef,w',R,.inr ⟨?_,rfl⟩,VR.undef R,k2,k3⟩
   simp only[execOp,Sem.run_bind,k1,Result.andThen_ok,Sem.run_pure]
  ·cases hc
 |call c=>
  simp only[]at hc
  split at hc
  ·injection hc with hc;subst hc;cases h
  ·injection hc with hc;subst hc;cases h
  ·rename_i b hcb
   obtain⟨callee,args,tys⟩:=c
   simp only at hcb
   subst hcb
   exact KR hS hT hok hc h
  ·cases hc
 |select cs b=>simp at hc
 |move x=>simp at hc;subst hc;cases h
 |assign x=>simp at hc;subst hc;cases h
 |pick c x y=>simp at hc;subst hc;cases h
 |alloc t=>cases hz:fU P t <;> simp[hz]at hc;subst hc;cases h
 |box t x=>simp at hc;subst hc;cases h
 |build t parts=>
  simp only[]at hc
  split at hc
  ·rename_i z fs hz hu
   cases hp:nR P fs.toList with
   |none=>simp[hp]at hc
   |some pl=>
    cases hq:fq (pl[·]?) parts.toList with
    |none=>simp[hp,hq]at hc
    |some ps=>simp[hp,hq]at hc;subst hc;cases h
  ·rename_i z k e hz hu
   cases hsz:bq P e with
   |none=>simp[hsz]at hc
   |some s=>
    cases hq:fq (fun i=>some (i*s,s)) parts.toList with
    |none=>simp[hsz,hq]at hc
    |some ps=>simp[hsz,hq]at hc;subst hc;cases h
  ·cases hc
 |buildSlice t len parts=>
  simp only[]at hc
  split at hc
  ·split at hc
   ·split at hc
    ·rename_i e hu _ _ s z hs hz hcond
     cases hq:fq (fun i=>some (i*s,s)) parts.toList with
     |none=>simp[hq]at hc
     |some ps=>simp[hq]at hc;subst hc;cases h
    ·cases hc
   ·cases hc
  ·cases hc
 |load t x=>simp only[]at hc;split at hc <;> simp at hc <;> subst hc <;> cases h
 |nilCheck x=>simp at hc;subst hc;cases h
 |binOp Vx t x y yt=>
  simp only[]at hc
  cases Vx <;> simp only[Option.some.injEq]at hc <;> subst hc <;> first
   |cases h
   |(unfold wU at h;split at h <;> (try split at h) <;> cases h)
 |convert s d x=>
  simp only[]at hc
  split at hc
  ·split at hc <;> simp at hc;subst hc;cases h
  ·split at hc <;> simp at hc;subst hc;cases h
  ·simp at hc;subst hc;cases h
 |makeInterface t x=>simp only[]at hc;split at hc <;> simp at hc;subst hc;cases h
 |makeFunc fn first captured=>cases fn <;> simp at hc <;> subst hc <;> cases h
 |makeMap t r=>cases r <;> simp at hc <;> subst hc <;> cases h
 |makeSlice t l c=>
  simp only[]at hc
  split at hc
  ·split at hc
   ·split at hc
    ·injection hc with hc;subst hc;cases h
    ·cases hc
   ·cases hc
  ·cases hc
 |slice t x lo hi mx=>
  simp only[]at hc
  split at hc
  ·rename_i e hu
   cases hsz:bq P e with
   |none=>simp[hsz]at hc
   |some s=>simp only[hsz,Option.bind_some]at hc;split at hc <;> simp at hc;subst hc;cases h
  ·rename_i k e hu
   cases hsz:bq P e with
   |none=>simp[hsz]at hc
   |some s=>simp only[hsz,Option.bind_some]at hc;split at hc <;> simp at hc;subst hc;cases h
  ·simp at hc;subst hc;cases h
  ·cases hc
 |fieldAddr t x i=>
  simp only[]at hc
  split at hc
  ·split at hc
   ·rename_i f hf
    cases hsz:bq P f.type with
    |none=>simp[hsz]at hc
    |some s=>simp only[hsz,Option.bind_some]at hc;split at hc <;> simp at hc;subst hc;cases h
   ·cases hc
  ·cases hc
 |field t x i=>
  simp only[]at hc
  split at hc
  ·split at hc
   ·split at hc <;> simp at hc <;> subst hc <;> cases h
   ·cases hc
  ·cases hc
 |indexAddr t x i=>
  simp only[]at hc
  split at hc
  ·rename_i e hu;cases hsz:bq P e <;> simp[hsz]at hc;subst hc;cases h
  ·rename_i k e hu
   split at hc
   ·cases hsz:bq P e <;> simp[hsz]at hc;subst hc;cases h
   ·cases hc
  ·cases hc
 |index t x i=>
  simp only[]at hc
  split at hc
  ·simp at hc;subst hc;cases h
  ·split at hc <;> simp at hc <;> subst hc <;> cases h
  ·cases hc
 |lookup t m k ok=>
  simp only[]at hc
  split at hc
  ·rename_i kt e hu;cases hz:fU P e <;> simp[hz]at hc;subst hc;cases h
  ·cases hc
 |typeAssert x xt t ok=>
  simp only[]at hc
  split at hc
  ·cases hc
  ·cases hz:fU P t <;> simp[hz]at hc;subst hc;cases h
  ·cases hc
 |extract x i=>simp at hc;subst hc;cases h
 |range t x=>
  simp only[]at hc
  split at hc
  ·injection hc with hc;subst hc;cases h
  ·cases hc
 |next x s=>
  cases s with
  |true=>simp only[]at hc;cases hc
  |false=>simp only[]at hc;injection hc with hc;subst hc;cases h
 |entry x=>simp only[Option.some.injEq]at hc;subst hc;cases h
 |_=>simp at hc;subst hc;cases h
end
end
end Go.Proofs.YtpbbjfighohokaaGreatI
