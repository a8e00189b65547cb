/- One operation, and rows of them. / What an operation hangs on: its operands, and of the heap what is there. / A region that draws its order: one order shows them all. / A region that draws its order: one order shows them all (the invariant, its steps). / A region that draws its order: one order show -/
import Derived.Test.YtpbbjfighohokaaGreatIdealK
namespace Go.Proofs.YtpbbjfighohokaaGreatI
open Go
set_option linter.unusedSimpArgs false
set_option linter.unusedVariables false
section
def KT (K:Value→aa→Prop)(R:Ren)(H:aa)(w:World):Ending→World→Prop:=
 fun e w'=> ∃r r' R' H',e = .returned r'∧K r H'∧VR R' r r'∧jC R' H' w'∧Ext R H w R' H' w'
def RZ (P:Program)(f:FuncId)(args:List Value)(H:aa)(K:Value→aa→Prop):Prop:=
 ((∀(as:Array Value) w,(callFunc f as).run P w = .ok (.enter f as) w) ∧
   ∀R w (args':Array Value),jC R H w→fE R args args'.toList→Calls P f args' w (KT K R H w)) ∨
 ((∀fn,P.funcs[f]? =some fn→fn.body.isNone=true)∧∀R w (args':Array Value),jC R H w→fE R args args'.toList →
   ∃r' w',(callFunc f args').run P w = .ok (.value r') w'∧KT K R H w (.returned r') w')
def vE (P:Program)(C:bS):Prop:=∀f args H K,C f args H K→RZ P f args H K
theorem PU {P:Program}{o:Oper}{io:bZ}(hop: ∀c,o.op ≠ .call c)(qa8: ∀t x,o.op ≠ .range t x)(qa9: ∀t s,o.op ≠ .next t s)(qba: ∀t,o.op ≠ .entry t)(hc:lW P o=some io)(hk:io.kind = .ca):False:=by
 unfold lW at hc
 split at hc
 ·cases hc
 obtain⟨dst,op,ty,pos,after,g⟩:=o
 simp only at hc hop qa8 qa9 qba
 cases op with
 |call c=>exact absurd rfl (hop c)
 |range t x=>exact absurd rfl (qa8 t x)
 |next t s=>exact absurd rfl (qa9 t s)
 |entry t=>exact absurd rfl (qba t)
 |mapUpdate t m k x=>simp only[]at hc;split at hc <;> simp at hc;subst hc;cases hk
 |insert t m k x=>simp only[]at hc;split at hc <;> simp at hc;subst hc;cases hk
 |store t x y=>simp only[]at hc;cases hsz:bq P t <;> simp[hsz]at hc;subst hc;cases hk
 |select cs b=>simp at hc
 |move x=>simp at hc;subst hc;cases hk
 |assign x=>simp at hc;subst hc;cases hk
 |pick c x y=>simp at hc;subst hc;cases hk
 |alloc t=>cases hz:fU P t <;> simp[hz]at hc;subst hc;cases hk
 |box t x=>simp at hc;subst hc;cases hk
 |build t parts=>
  simp only[]at hc
  split at hc
  ·rename_i z fs hz hu
   cases hp:nR P fs.toList with
   |none=>simp[hp]at hc
   |some pl=>
    cases hq:fq (pl[·]?) parts.toList with
    |none=>simp[hp,hq]at hc
    |some ps=>simp[hp,hq]at hc;subst hc;cases hk
  ·rename_i z k e hz hu
   cases hsz:bq P e with
   |none=>simp[hsz]at hc
   |some s=>
    cases hq:fq (fun i=>some (i*s,s)) parts.toList with
    |none=>simp[hsz,hq]at hc
    |some ps=>simp[hsz,hq]at hc;subst hc;cases hk
  ·cases hc
 |buildSlice t len parts=>
  simp only[]at hc
  split at hc
  ·split at hc
   ·split at hc
    ·rename_i e hu _ _ s z hs hz hcond
     cases hq:fq (fun i=>some (i*s,s)) parts.toList with
     |none=>simp[hq]at hc
     |some ps=>simp[hq]at hc;subst hc;cases hk
    ·cases hc
   ·cases hc
  ·cases hc
 |load t x=>simp only[]at hc;split at hc <;> simp at hc <;> subst hc <;> cases hk
 |nilCheck x=>simp at hc;subst hc;cases hk
 |binOp Vx t x y yt=>
  simp only[]at hc
  cases Vx <;> simp only[Option.some.injEq]at hc <;> subst hc <;> first
   |cases hk
   |(unfold wU at hk;split at hk <;> (try split at hk) <;> cases hk)
 |convert s d x=>
  simp only[]at hc
  split at hc
  ·split at hc <;> simp at hc;subst hc;cases hk
  ·split at hc <;> simp at hc;subst hc;cases hk
  ·simp at hc;subst hc;cases hk
 |makeInterface t x=>simp only[]at hc;split at hc <;> simp at hc;subst hc;cases hk
 |makeFunc fn first captured=>cases fn <;> simp at hc <;> subst hc <;> cases hk
 |makeMap t r=>cases r <;> simp at hc <;> subst hc <;> cases hk
 |makeSlice t l c=>
  simp only[]at hc
  split at hc
  ·split at hc
   ·split at hc
    ·injection hc with hc;subst hc;cases hk
    ·cases hc
   ·cases hc
  ·cases hc
 |slice t x lo hi mx=>
  simp only[]at hc
  split at hc
  ·rename_i e hu
   cases hsz:bq P e with
   |none=>simp[hsz]at hc
   |some s=>simp only[hsz,Option.bind_some]at hc;split at hc <;> simp at hc;subst hc;cases hk
  ·rename_i k e hu
   cases hsz:bq P e with
   |none=>simp[hsz]at hc
   |some s=>simp only[hsz,Option.bind_some]at hc;split at hc <;> simp at hc;subst hc;cases hk
  ·simp at hc;subst hc;cases hk
  ·cases hc
 |fieldAddr t x i=>
  simp only[]at hc
  split at hc
  ·split at hc
   ·rename_i f hf
    cases hsz:bq P f.type with
    |none=>simp[hsz]at hc
    |some s=>simp only[hsz,Option.bind_some]at hc;split at hc <;> simp at hc;subst hc;cases hk
   ·cases hc
  ·cases hc
 |field t x i=>
  simp only[]at hc
  split at hc
  ·split at hc
   ·split at hc <;> simp at hc <;> subst hc <;> cases hk
   ·cases hc
  ·cases hc
 |indexAddr t x i=>
  simp only[]at hc
  split at hc
  ·rename_i e hu;cases hsz:bq P e <;> simp[hsz]at hc;subst hc;cases hk
  ·rename_i k e hu
   split at hc
   ·cases hsz:bq P e <;> simp[hsz]at hc;subst hc;cases hk
   ·cases hc
  ·cases hc
 |index t x i=>
  simp only[]at hc
  split at hc
  ·simp at hc;subst hc;cases hk
  ·split at hc <;> simp at hc <;> subst hc <;> cases hk
  ·cases hc
 |lookup t m k ok=>
  simp only[]at hc
  split at hc
  ·rename_i kt e hu;cases hz:fU P e <;> simp[hz]at hc;subst hc;cases hk
  ·cases hc
 |typeAssert x xt t ok=>
  simp only[]at hc
  split at hc
  ·cases hc
  ·cases hz:fU P t <;> simp[hz]at hc;subst hc;cases hk
  ·cases hc
 |extract x i=>simp at hc;subst hc;cases hk
 |_=>simp at hc;subst hc;cases hk
section
variable {P:Program} {C:bS} {n:Nat} {R:Ren} {H:aa} {w:World} {T:Env} {a:Act}
theorem Uc {dst:Option Nat}{ty t:TypeId}{x:Operand}{pos:_}{after:_}{g:_}{kt e:TypeId}{K:Value→aa→Prop}{next:Act→World→Prop}{Q:Exit→Act→World→Prop}(hS:jC R H w)(hT:kY n R T a.tmps)
 (hok:uw (Op.range t x).operands.toList=true) (hu:P.underlying t=some (.map kt e)) (h:wS H K (ev T x))
 (hn: ∀v v' R' H' w',K v H'→VR R' v v'→jC R' H' w'→Ext R H w R' H' w'→next (a.put dst v') w'):Oper.upon P ⟨dst,.range t x,ty,pos,after,g⟩ a next Q ((execOp a.eval ⟨dst,.range t x,ty,pos,after,g⟩).run P w):=by
 have hv:=bz hT (aL hok (x:=x) (by simp[Op.operands]))
 have hnd: ¬ R.dom H.next:=fun hd=>Nat.lt_irrefl _ (hS.lt _ hd)
 have fin: ∀(m m':Option Nat) (cl:Nat),MP R m m'→K (.pointer (some ⟨H.next,0,none⟩)) (H.alloc (.iter m cl [] cl)) →
  (execOp a.eval ⟨dst,.range t x,ty,pos,after,g⟩).run P w = .ok (.value (.pointer (some ⟨w.heap.size,0,none⟩))) {w with heap:=w.heap.push (.mapIter m' cl #[] cl)} →
  Oper.upon P ⟨dst,.range t x,ty,pos,after,g⟩ a next Q ((execOp a.eval ⟨dst,.range t x,ty,pos,after,g⟩).run P w):=by
  intro m m' cl hm hK hrun
  rw[hrun]
  have hle:R.le (R.add H.next w.heap.size 0 0):=Ren.KQ hnd
  have hone:Ua w {w with heap:=w.heap.push (.mapIter m' cl #[] cl)}:=wX w _ _
  refine hn _ _ _ _ _ hK ?_ (Km (size:=0) (len:=0) (hS.AA (.iter m cl [] cl)) (Nat.lt_succ_self _) hnd (iC H _) hone (x:=.mapIter m' cl #[] cl) (by simp) ⟨by simp[Ren.add],rfl,rfl,rfl,hm.mono hle⟩)
   (N7 hS hle (fun b=>Iff.rfl) (by simp[Ren.add]) hone)
  have:=VR.ptr (R:=R.add H.next w.heap.size 0 0) H.next 0 (.inr rfl)
  simpa[Ren.add]using this
 unfold wS at h
 split at h
 ·rename_i hx
  rw[hx]at hv
  have hx':a.eval x = .map none:=hv.map_nil
  refine fin none none 0 trivial h ?_
  simp only[execOp,Instr.range,Sem.run_bind,aJ hu,hx',Result.andThen_ok,Sem.run_pure,run_newObj]
 ·rename_i r hx
  rw[hx]at hv
  split at h
  ·rename_i es cl hg
   obtain⟨hx',hd⟩:=hv.map_some
   have ho:=hS.obj r hd
   rw[hg]at ho
   obtain⟨es',hw,_⟩:=ho
   refine fin (some r) (some (R.blk r)) cl ⟨hd,rfl⟩ h ?_
   simp only[execOp,Instr.range,Sem.run_bind,aJ hu,hx',Result.andThen_ok,jD P hw,Sem.run_pure,run_newObj]
  ·exact h.elim
 ·exact h.elim
theorem PV (P:Program)(k:Nat)(hk:0<k)(w:World): ∃i d,i<k∧(choose (.mapNext k)).run P w = .ok i {w with drawn:=d}:=by
 by_cases h:k≤1
 ·refine⟨0,w.drawn,hk,?_⟩
  simp only[choose,Sem.run,Question.forced,h,decide_true,if_true]
 ·refine⟨(w.tape w.drawn (.mapNext k)) % k,w.drawn+1,Nat.mod_lt _ hk,?_⟩
  simp only[choose,Sem.run,Question.forced,h,decide_false,Bool.false_eq_true,if_false,Question.cut]
theorem dz.mem {R:Ren}: ∀{l l':List MapEntry},dz R l l'→∀e' ∈ l',∃e ∈ l,Mk R e e'
 |_,_,.nil,_,h=>by simp at h
 |_,_,.cons h1 h2,e',h=>by
  rcases List.mem_cons.1 h with rfl|h
  ·exact⟨_,List.mem_cons_self,h1⟩
  ·obtain⟨e,h3,h4⟩:=dz.mem h2 e' h
   exact⟨e,List.mem_cons_of_mem _ h3,h4⟩
theorem dz.mem' {R:Ren}: ∀{l l':List MapEntry},dz R l l'→∀e ∈ l,∃e' ∈ l',Mk R e e'
 |_,_,.nil,_,h=>by simp at h
 |_,_,.cons h1 h2,e,h=>by
  rcases List.mem_cons.1 h with rfl|h
  ·exact⟨_,List.mem_cons_self,h1⟩
  ·obtain⟨e',h3,h4⟩:=dz.mem' h2 e h
   exact⟨e',List.mem_cons_of_mem _ h3,h4⟩
theorem zb (P:Program){w:World}{r s l:Nat}{m:Option Nat}{sn:Array Nat}(h:w.heap[r]? =some (.mapIter m s sn l)):(getObj r).run P w = .ok (.mapIter m s sn l) w:=by
 simp[getObj,Sem.run,h]
theorem VB (P:Program){w:World}{b m since last clock:Nat}{seen:Array Nat}{es:Array MapEntry}{ty:TypeId}(h1:w.heap[b]? =some (.mapIter (some m) since seen last))(h2:w.heap[m]? =some (.map es clock))
 (hok:(!seen.isEmpty && !es.isEmpty&&es.all (·.born≥last))=false):
 (∃d,(∀e ∈ es.toList,e.born ∉ seen.toList→since≤e.born)∧(Instr.next (.pointer (some ⟨b,0,none⟩)) false ty).run P w = .ok (.tuple #[.bool false]) {w with drawn:=d}) ∨
 (∃d,∃e ∈ es.toList,e.born ∉ seen.toList∧(Instr.next (.pointer (some ⟨b,0,none⟩)) false ty).run P w = .ok (.tuple #[.bool true,e.key,e.val]) {w with heap:=w.heap.setIfInBounds b (.mapIter (some m) since (seen.push e.born) clock),drawn:=d}):=by
 generalize hleft:(es.filter fun e=> !seen.contains e.born)=left
 generalize hold:(left.filter (·.born<since))=old
 generalize hnew:(left.filter (·.born≥since))=new
 generalize Tt:((if old.isEmpty then #[none]else #[])++(old++new).map some:Array (Option MapEntry))=cand
 have hpos:0<cand.size:=by
  rw[←Tt]
  by_cases h:old.isEmpty=true
  ·rw[if_pos h];simp;omega
  ·rw[if_neg h]
   have:0<old.size:=by
    rcases Nat.eq_zero_or_pos old.size with h0|h0
    ·exact absurd (by simp[Array.isEmpty,h0]) h
    ·exact h0
   simp;omega
 obtain⟨i,d,hi,hch⟩:=PV P cand.size hpos w
 have hrun: ∀v w',(match cand[i]? with
  |some (some e)=>(do setObj b (.mapIter (some m) since (seen.push e.born) clock);pure (.tuple #[.bool true,e.key,e.val]):Sem Value)
  |some none=>pure (.tuple #[.bool false])
  |none=>stuck "Next: no such candidate").run P {w with drawn:=d} = .ok v w'→(Instr.next (.pointer (some ⟨b,0,none⟩)) false ty).run P w = .ok v w':=by
  intro v w' hh
  unfold Instr.next
  simp only[Sem.run_bind,zb P h1,Result.andThen_ok,jD P h2,hok,Bool.false_eq_true,if_false,hleft,hold,hnew,Tt,hch,pure_bind]
  exact hh
 have hc:cand[i]? =some cand[i]:=by simp[hi]
 cases hci:cand[i]with
 |none=>
  left
  refine⟨d,?_,hrun _ _ (by rw[hc,hci];rfl)⟩
  have hmem:(none:Option MapEntry) ∈ cand:=by rw[←hci];exact Array.getElem_mem hi
  have hemp:old.isEmpty=true:=by
   cases hb:old.isEmpty with
   |true=>rfl
   |false=>rw[←Tt,hb]at hmem;simp at hmem
  intro e he hns
  refine Classical.byContradiction fun hlt=> ?_
  have:e ∈ old:=by
   rw[←hold,←hleft]
   simp only[Array.mem_filter]
   refine⟨⟨by simpa using he,by simpa using hns⟩,by simp;omega⟩
  rw[Array.isEmpty_iff]at hemp
  rw[hemp]at this
  simp at this
 |some e=>
  right
  have hmem:some e ∈ cand:=by rw[←hci];exact Array.getElem_mem hi
  have hm2:e ∈ left:=by
   rw[←Tt]at hmem
   have:e ∈ old∨e ∈ new:=by
    cases hb:old.isEmpty <;> rw[hb]at hmem <;> simpa using hmem
   rcases this with h|h
   ·rw[←hold]at h;exact(Array.mem_filter.1 h).1
   ·rw[←hnew]at h;exact(Array.mem_filter.1 h).1
  rw[←hleft]at hm2
  obtain⟨hm3,hm4⟩:=Array.mem_filter.1 hm2
  refine⟨d,e,by simpa using hm3,by simpa using hm4,hrun _ _ ?_⟩
  rw[hc,hci]
  simp only[Sem.run_bind,setObj,Sem.run,h1,Result.andThen_ok]
  rfl
theorem VC {dst:Option Nat}{ty:TypeId}{x:Operand}{pos:_}{after:_}{g:_}{K:Value→aa→Prop}{next:Act→World→Prop}{Q:Exit→Act→World→Prop}(hS:jC R H w)(hT:kY n R T a.tmps)
 (hok:uw (Op.next x false).operands.toList=true) (h:rQ H K (ev T x))
 (hn: ∀v v' R' H' w',K v H'→VR R' v v'→jC R' H' w'→Ext R H w R' H' w'→next (a.put dst v') w'):Oper.upon P ⟨dst,.next x false,ty,pos,after,g⟩ a next Q ((execOp a.eval ⟨dst,.next x false,ty,pos,after,g⟩).run P w):=by
 have hv:=bz hT (aL hok (x:=x) (by simp[Op.operands]))
 have fin: ∀v w',(Instr.next (a.eval x) false ty).run P w = .ok v w'→next (a.put dst v) w'→Oper.upon P ⟨dst,.next x false,ty,pos,after,g⟩ a next Q ((execOp a.eval ⟨dst,.next x false,ty,pos,after,g⟩).run P w):=by
  intro v w' h1 h2
  have:(execOp a.eval ⟨dst,.next x false,ty,pos,after,g⟩).run P w = .ok (.value v) w':=by
   simp only[execOp,Sem.run_bind,h1,Result.andThen_ok]
   rfl
  rw[this]
  exact h2
 unfold rQ at h
 split at h
 ·rename_i r hx
  rw[hx]at hv
  obtain⟨hx',hd⟩:=hv.qc
  have ho:=hS.obj r hd
  split at h
  ·rename_i s sn l hg
   rw[hg]at ho
   obtain⟨h0,m',hw,hm⟩:=ho
   have hm':m'=none:=by cases m' with
    |none=>rfl
    |some j=>exact hm.elim
   subst hm'
   rw[h0,Nat.add_zero]at hx'
   refine fin (.tuple #[.bool false]) w ?_ (hn _ _ R H w h (.tuple _ _ (.cons (.bool _) .nil)) hS (Ext.refl _ _ _))
   rw[hx']
   unfold Instr.next
   simp only[Sem.run_bind,zb P hw,Result.andThen_ok]
   rfl
  ·rename_i m since seen last hg
   rw[hg]at ho
   obtain⟨h0,m',hw,hm⟩:=ho
   obtain⟨j,rfl⟩: ∃j,m'=some j:=by cases m' with
    |none=>exact hm.elim
    |some j=>exact⟨j,rfl⟩
   obtain⟨hmd,rfl⟩:=hm
   rw[h0,Nat.add_zero]at hx'
   split at h
   ·rename_i es clock hgm
    have XN:=hS.obj m hmd
    rw[hgm]at XN
    obtain⟨es',hwm,hes⟩:=XN
    obtain⟨c1,c2,c3⟩:=h
    have hcond:(!seen.toArray.isEmpty && !es'.isEmpty&&es'.all (·.born≥last))=false:=by
     rcases c1 with rfl|rfl|⟨e,he,hlt⟩
     ·rfl
     ·have hl:=hes.length
      have:es' = #[]:=by
       apply Array.eq_empty_of_size_eq_zero
       simpa using hl.symm
      rw[this];simp
     ·obtain⟨e',he',hr⟩:=hes.mem' e he
      have:es'.all (fun e=>decide (e.born≥last))=false:=by
       rw[Bool.eq_false_iff]
       intro hall
       rw[Array.all_eq_true']at hall
       have:=hall e' (by simpa using he')
       simp only[decide_eq_true_eq]at this
       have:=hr.born
       omega
      rw[this,Bool.and_false]
    rcases VB P (ty:=ty) hw hwm hcond with⟨d,q1,q2⟩|⟨d,e',he',hns,q2⟩
    ·refine fin _ _ (by rw[hx'];exact q2) (hn _ _ R H _ (c2 fun e he hn'=> ?_) (.tuple _ _ (.cons (.bool _) .nil)) (hS.drawn d) ((Ext.refl R H {w with drawn:=d}).drawn))
     obtain⟨e',he',hr⟩:=hes.mem' e he
     have:=q1 e' he' (by rw[hr.born];simpa using hn')
     rw[hr.born]at this
     exact this
    ·obtain⟨e,he,hr⟩:=hes.mem e' he'
     have qag:e.born ∉ seen:=by rw[←hr.born];simpa using hns
     have hlive:bI H r:=by unfold bI;rw[hg];trivial
     have qbR:WAt w {w with heap:=w.heap.setIfInBounds (R.blk r) (.mapIter (some (R.blk m)) since (seen.toArray.push e'.born) clock),drawn:=d} (R.blk r):=
      ⟨by simp,fun j hj=>by simp[Array.getElem?_setIfInBounds_ne (fun e=>hj e.symm)],rfl,rfl,rfl⟩
     have hlt:R.blk r<w.heap.size:=(Array.getElem?_eq_some_iff.1 hw).1
     obtain⟨s1,s2⟩:=NZ (x:=.iter (some m) since (seen++[e.born]) clock) hS hd hg (KH hlive) hlive qbR ⟨h0,some (R.blk m),by simp[hlt,hr.born],hmd,rfl⟩ (by simp)
     exact fin _ _ (by rw[hx'];exact q2) (hn _ _ R _ _ (c3 e he qag) (.tuple _ _ (.cons (.bool _) (.cons hr.key (.cons hr.val .nil)))) s1 s2)
   ·exact h.elim
  ·exact h.elim
 ·exact h.elim
theorem M0 {s:Nat}: ∀{l l':List MapEntry},dz R l l'→∀e,l.find? (fun e=>e.born == s)=some e→∃e',l'.find? (fun e=>e.born == s)=some e'∧Mk R e e'
 |_,_,.nil,e,h=>by simp at h
 |_,_,.cons (e:=a) (e':=b) h1 h2,e,h=>by
  rw[List.find?_cons]at h ⊢
  rw[h1.born]
  cases hb:a.born == s with
  |true=>rw[hb]at h;injection h with h;subst h;exact⟨b,rfl,h1⟩
  |false=>rw[hb]at h;exact M0 h2 e h
theorem Ud {dst:Option Nat}{ty:TypeId}{x:Operand}{pos:_}{after:_}{g:_}{K:Value→aa→Prop}{next:Act→World→Prop}{Q:Exit→Act→World→Prop}(hS:jC R H w)(hT:kY n R T a.tmps)
 (hok:uw (Op.entry x).operands.toList=true) (h:uu H K (ev T x))
 (hn: ∀v v' R' H' w',K v H'→VR R' v v'→jC R' H' w'→Ext R H w R' H' w'→next (a.put dst v') w'):Oper.upon P ⟨dst,.entry x,ty,pos,after,g⟩ a next Q ((execOp a.eval ⟨dst,.entry x,ty,pos,after,g⟩).run P w):=by
 have hv:=bz hT (aL hok (x:=x) (by simp[Op.operands]))
 unfold uu at h
 split at h
 ·rename_i r hx
  rw[hx]at hv
  obtain⟨hx',hd⟩:=hv.qc
  have ho:=hS.obj r hd
  split at h
  ·rename_i m since seen last hg
   rw[hg]at ho
   obtain⟨h0,m',hw,hm⟩:=ho
   obtain⟨j,rfl⟩: ∃j,m'=some j:=by cases m' with
    |none=>exact hm.elim
    |some j=>exact⟨j,rfl⟩
   obtain⟨hmd,rfl⟩:=hm
   rw[h0,Nat.add_zero]at hx'
   split at h
   ·rename_i es clock hgm
    have XN:=hS.obj m hmd
    rw[hgm]at XN
    obtain⟨es',hwm,hes⟩:=XN
    obtain⟨rfl,pre,s,rfl,e,hf,hK⟩:=h
    obtain⟨e',hf',hr⟩:=M0 hes e hf
    have hf2:es'.find? (fun e=>e.born == s)=some e':=by rw[←hf'];simp
    have hrun:(execOp a.eval ⟨dst,.entry x,ty,pos,after,g⟩).run P w = .ok (.value (.tuple #[e'.key,e'.val])) w:=by
     have:(Instr.entry (a.eval x)).run P w = .ok (.tuple #[e'.key,e'.val]) w:=by
      rw[hx']
      unfold Instr.entry
      have hb:(pre++[s]).toArray.back? =some s:=by simp
      simp only[Sem.run_bind,zb P hw,Result.andThen_ok,hb,jD P hwm,bne_self_eq_false,Bool.false_eq_true,if_false,hf2]
      rfl
     simp only[execOp,Sem.run_bind,this,Result.andThen_ok]
     rfl
    rw[hrun]
    exact hn _ _ R H w hK (.tuple _ _ (.cons hr.key (.cons hr.val .nil))) hS (Ext.refl _ _ _)
   ·exact h.elim
  ·exact h.elim
 ·exact h.elim
theorem VD {o:Oper}{io:bZ}{K:Value→aa→Prop}{next:Act→World→Prop}{Q:Exit→Act→World→Prop}(hC:vE P C)(hS:jC R H w)(hT:kY n R T a.tmps)
 (hc:lW P o=some io) (h:NQ P C T H io K) (hn: ∀v v' R' H' w',K v H'→VR R' v v'→jC R' H' w'→Ext R H w R' H' w'→next (a.put o.dst v') w'):o.wp P a w next Q:=by
 unfold Oper.wp
 unfold NQ at h
 split at h
 ·rename_i hk
  obtain⟨v,h1,h2⟩:=h
  obtain⟨v',h3,h4⟩:=Vw hS hT hc hk h1
  rw[h3]
  exact hn v v' R H w h2 h4 hS (Ext.refl _ _ _)
 ·obtain⟨⟨obj,mk⟩,h1,h2⟩:=h
  have hnd: ¬ R.dom H.next:=fun hd=>Nat.lt_irrefl _ (hS.lt _ hd)
  obtain⟨v',w',R',hm⟩:=Vz (hS.AA obj) hT hc h1 (Nat.lt_succ_self _) hnd (iC H obj)
  rw[hm.run]
  exact hn _ v' R' _ w' h2 hm.val hm.Eu (N7 hS hm.le hm.dom hm.blk hm.one)
 ·obtain⟨⟨v,H'⟩,h1,h2⟩:=h
  obtain⟨v',w',R',h3,h4,h5,h6⟩:=qaf hS hT hc h1
  rcases h3 with h3|⟨h3,rfl⟩
  ·rw[h3];exact hn v v' R' H' w' h2 h4 h5 h6
  ·rw[h3];exact hn v undef R' H' w' h2 h4 h5 h6
 ·rename_i hk
  have hc0:=hc
  unfold lW at hc
  split at hc
  ·cases hc
  rename_i hok
  have hok:uw o.op.operands.toList=true:=by cases hq:uw o.op.operands.toList with|true=>rfl|false=>exact absurd hq hok
  obtain⟨dst,op,ty,pos,after,g⟩:=o
  simp only at hc hok hn
  have fin: ∀f (as:List Value) (as':Array Value),C f as H K→fE R as as'.toList→(execOp a.eval ⟨dst,op,ty,pos,after,g⟩).run P w=(callFunc f as').run P w →
   (⟨dst,op,ty,pos,after,g⟩:Oper).upon P a next Q ((execOp a.eval ⟨dst,op,ty,pos,after,g⟩).run P w):=by
   intro f as as' hcf hvs hrun
   rcases hC f as H K hcf with⟨h1,h2⟩|⟨_,h2⟩
   ·rw[hrun,h1]
    refine(h2 R w as' hS hvs).mono fun e w'' he=> ?_
    obtain⟨r,r',R',H',rfl,k1,k2,k3,k4⟩:=he
    exact hn r r' R' H' w'' k1 k2 k3 k4
   ·obtain⟨v',w',h3,r,r',R',H',he,k1,k2,k3,k4⟩:=h2 R w as' hS hvs
    injection he with he
    subst he
    rw[hrun,h3]
    exact hn r _ R' H' w' k1 k2 k3 k4
  cases op with
  |call c=>
   obtain⟨callee,args,tys⟩:=c
   simp only[]at hc
   split at hc
   ·rename_i f _
    injection hc with hc;subst hc
    simp only[rR]at h
    refine fin f _ (args.map a.eval) h ?_ ?_
    ·rw[Array.toList_map]
     exact NU hT (by unfold uw;exact List.all_eq_true.2 fun x hx=>aL hok (by simp[Op.operands,Call.operands];exact .inr (by simpa using hx)))
    ·simp[execOp,resolve,Act.eval,Deferred.ofValue,invoke]
   ·rename_i x hnf _
    injection hc with hc;subst hc
    simp only[rR]at h
    split at h
    ·rename_i f first captured he
     have hrx:=bz hT (aL hok (x:=x) (by simp[Op.operands,Call.operands]))
     rw[he]at hrx
     obtain⟨b',c',hx,h1,h2⟩:=hrx.PO
     refine fin f _ (b'++args.map a.eval++c') h ?_ ?_
     ·rw[Array.toList_append,Array.toList_append,Array.toList_map]
      exact fE.append h2 (fE.append (NU hT (by unfold uw;exact List.all_eq_true.2 fun y hy=>aL hok (by simp[Op.operands,Call.operands];exact .inr (by simpa using hy)))) h1)
     ·simp[execOp,resolve,hx,Deferred.ofValue,invoke]
    ·exact h.elim
   ·exfalso
    unfold jv at hc
    have bad: ∀{x:bZ},(x=io)→x.kind ≠ .ca→False:=fun e hne=>hne (e▸hk)
    split at hc
    ·split at hc <;> first|(injection hc with hc;exact bad hc (by simp[bZ.kind]))|(split at hc <;> first|(injection hc with hc;exact bad hc (by simp[bZ.kind]))|cases hc)
    ·split at hc <;> first|(injection hc with hc;exact bad hc (by simp[bZ.kind]))|cases hc
    ·split at hc
     ·split at hc <;> first|cases hc|(split at hc <;> first|(injection hc with hc;exact bad hc (by simp[bZ.kind]))|cases hc)
     ·cases hc
    ·split at hc
     ·rename_i e _ _ _;cases hq:bq P e <;> simp[hq]at hc;exact bad hc (by simp[bZ.kind])
     ·cases hc
    ·split at hc
     ·rename_i e _
      cases hq:fU P e with
      |none=>simp[hq]at hc
      |some z=>simp only[hq,Option.bind_some]at hc;split at hc <;> simp at hc;exact bad hc (by simp[bZ.kind])
     ·cases hc
    ·split at hc <;> first|(injection hc with hc;exact bad hc (by simp[bZ.kind]))|cases hc
    all_goals first|(injection hc with hc;exact bad hc (by simp[bZ.kind]))|cases hc
   ·cases hc
  |range t x=>
   simp only[]at hc
   split at hc
   ·rename_i kt e hu
    injection hc with hc;subst hc
    exact Uc hS hT hok hu h hn
   ·cases hc
  |next x s=>
   cases s with
   |true=>simp only[]at hc;cases hc
   |false=>
    simp only[]at hc
    injection hc with hc;subst hc
    exact VC hS hT hok h hn
  |entry x=>
   simp only[Option.some.injEq]at hc
   subst hc
   exact Ud hS hT hok h hn
  |_=>exact(PU (by simp) (by simp) (by simp) (by simp) hc0 hk).elim
theorem Dt {ops:Array Oper}{o:Oper}{g:Option (Nat×Bool)}(hT:kY n R T a.tmps)(hg:pK ops o.guard=some g)(hd: ∀d b,g=some (d,b)→d<n):
 Region.wanted o (yielded ops a.tmps)=dI T g:=by
 unfold Region.wanted
 cases hog:o.guard with
 |none=>
  rw[hog]at hg
  simp only[pK,Option.some.injEq]at hg
  subst hg
  rfl
 |some jw=>
  obtain⟨j,want⟩:=jw
  rw[hog]at hg
  simp only[pK]at hg
  cases hj:(ops[j]?).bind (·.dst)with
  |none=>rw[hj]at hg;simp at hg
  |some d=>
   rw[hj]at hg
   simp only[Option.some.injEq]at hg
   subst hg
   have hdn:=hd d want rfl
   have hr:=hT.get d
   have hlt:d<a.tmps.size:=by rw[hT.size];exact hdn
   have ht:a.tmps[d]? =some a.tmps[d]:=by simp[hlt]
   have hr':VR R (T d) a.tmps[d]:=by simpa[hlt]using hr
   unfold yielded dI
   simp only[hj,Option.bind_some,ht]
   cases he:T d <;> rw[he]at hr' <;> (generalize a.tmps[d]=v' at hr' ⊢) <;> cases hr' <;> first|rfl|(rename_i _ hnb;revert hnb;cases v' <;> first|(intro _;rfl)|(intro hnb;exact absurd rfl (hnb _)))
theorem N8 (hC:vE P C){ops:Array Oper}{Q:Exit→Act→World→Prop}{K:Env→aa→Prop}: ∀(os:List Oper) (xs:List aN) (R:Ren) (H:aa) (T:Env) (a:Act) (w:World),
 iA P n ops os=some xs→fe P C xs K T H→jC R H w→kY n R T a.tmps→a.defers=[] →
 (∀T' H' R' a' w',K T' H'→jC R' H' w'→kY n R' T' a'.tmps→a'.defers=[]→Ext R H w R' H' w'→Q .normal a' w')→wpList P ops Q os a w
 |[],xs,R,H,T,a,w,hx,h,hS,hT,hd,hK=>by
  simp only[iA,Option.some.injEq]at hx
  subst hx
  exact hK T H R a w h hS hT hd (Ext.refl _ _ _)
 |o::os,xs,R,H,T,a,w,hx,h,hS,hT,hd,hK=>by
  simp only[iA]at hx
  cases hxo:rT P n ops o with
  |none=>rw[hxo]at hx;simp at hx
  |some x=>
   cases hxs:iA P n ops os with
   |none=>rw[hxo,hxs]at hx;simp at hx
   |some xs'=>
    rw[hxo,hxs]at hx
    simp only[Option.some.injEq]at hx
    subst hx
    unfold rT at hxo
    split at hxo
    case h_2=>cases hxo
    rename_i io g hio hg
    split at hxo
    case isFalse=>cases hxo
    rename_i hcond
    injection hxo with hxo
    subst hxo
    simp only[Bool.and_eq_true]at hcond
    have hdst: ∀x,o.dst=some x→x<n:=fun x hx=>by have:=hcond.1;rw[hx]at this;simpa[ltO]using this
    have hgd: ∀d b,g=some (d,b)→d<n:=fun d b hgb=>by have:=hcond.2;rw[hgb]at this;simpa[ltG]using this
    unfold wpList
    rw[Dt hT hg hgd]
    simp only[fe]at h
    cases hw:dI T g with
    |true=>
     rw[hw]at h
     simp only[if_true]
     refine .inl (VD hC hS hT hio h fun v v' R' H' w' k1 k2 k3 k4=> ?_)
     exact N8 hC os xs' R' H' _ _ w' hxs k1 k3 ((hT.mono k4.le).put hdst k2) (by rw[put_defers];exact hd) fun T'' Rw R'' a'' w'' q1 q2 q3 q4 q5=>hK T'' Rw R'' a'' w'' q1 q2 q3 q4 (k4.trans q5)
    |false=>
     rw[hw]at h
     simp only[Bool.false_eq_true,if_false]
     exact N8 hC os xs' R H _ _ w hxs h hS (hT.put hdst (VR.undef R)) (by rw[put_defers];exact hd) hK
end
end
def bZ.bT:bZ→List Operand
 | .raw o _=>o.operands.toList
 | .move x| .box x| .ah x| .ak _ x| .nilCheck x| .fC _ _ x| .p9 _ x| .KA x| .yX x| .fieldAddr _ x| .Ti _ x| .Vo _ _ x| .bR x| .Tj x| .KC x
 | .extract x _| .qW _ _ _ x| .Ew _ x=>[x]
 | .pick c a b=>[c,a,b]
 | .alloc _| .mkMap=>[]
 | .build _ ps| .buildSlice _ _ ps=>ps.map (·.2)
 | .store _ a x| .mkSlice _ _ a x| .bg _ a x| .yZ _ _ a x| .Kj _ a x| .NM _ _ a x| .lookup _ _ _ a x| .delete _ a x| .copy _ a x| .append _ _ a x| .Av a x| .Ex _ _ a x=>[a,x]
 | .Kz _ first captured=>first++captured
 | .dn _ x lo hi mx| .yY _ _ x lo hi mx=>x::(lo.toList++hi.toList++mx.toList)
 | .mapUpdate _ m k v=>[m,k,v]
 | .call _ args=>args
 | .nO f args=>f::args
 | .bin _ x y| .eqv _ _ x y| .PK _ x y| .NN x y=>[x,y]
 | .un _ x| .conv _ x| .pI x=>[x]
 | .PL x lo hi=>x::(lo.toList++hi.toList)
 | .rangeMap x| .wQ x| .rP x=>[x]
 | .never=>[]
theorem qd {f g:Operand→Value}{l:List Operand}(h: ∀x ∈ l,f x=g x):l.map f=l.map g:=List.map_congr_left h
theorem Du {T T':Env}{x:Operand}(h:ev T x=ev T' x):nL T x=nL T' x:=by unfold nL;rw[h]
theorem wZ {T T':Env}{len:Nat}{lo hi mx:Option Operand}(h: ∀x ∈ lo.toList++hi.toList++mx.toList,ev T x=ev T' x):eU T len lo hi mx=eU T' len lo hi mx:=by
 have h1: ∀x,lo=some x→nL T x=nL T' x:=fun x hx=>Du (h x (by simp[hx]))
 have h2: ∀x,hi=some x→nL T x=nL T' x:=fun x hx=>Du (h x (by simp[hx]))
 have h3: ∀x,mx=some x→nL T x=nL T' x:=fun x hx=>Du (h x (by simp[hx]))
 unfold eU
 cases lo <;> cases hi <;> cases mx <;> simp only[] <;> (try rw[h1 _ rfl]) <;> (try rw[h2 _ rfl]) <;> (try rw[h3 _ rfl])
theorem Ik {T T':Env}{ps:List ((Nat×Nat)×Operand)}(h: ∀x ∈ ps.map (·.2),ev T x=ev T' x):(ps.map fun p=>(p.1,ev T p.2))=(ps.map fun p=>(p.1,ev T' p.2)):=
 List.map_congr_left fun p hp=>by rw[h p.2 (List.mem_map.2 ⟨p,hp,rfl⟩)]
theorem Ue {P:Program}{T T':Env}{H:aa}{o:Op}{ty:TypeId}(hsel: ∀cs b,o ≠ .select cs b)(h: ∀x ∈ o.operands.toList,ev T x=ev T' x):bL P T H (.raw o ty)=bL P T' H (.raw o ty):=by
 have e:execOp (ev T) ⟨none,o,ty, "",#[],none⟩=execOp (ev T') ⟨none,o,ty, "",#[],none⟩:=execOp_congr _ hsel fun x hx=>h x (by simpa using hx)
 have e2:o.operands.toList.all (fun x=>lV (ev T x))=o.operands.toList.all (fun x=>lV (ev T' x)):=by
  rw[Bool.eq_iff_iff,List.all_eq_true,List.all_eq_true]
  exact⟨fun k x hx=>by rw[←h x hx];exact k x hx,fun k x hx=>by rw[h x hx];exact k x hx⟩
 simp only[bL,e,e2]
theorem M3 {P:Program}{T T':Env}{H:aa}{io:bZ}(hsel: ∀cs b ty,io ≠ .raw (.select cs b) ty)(h: ∀x ∈ io.bT,ev T x=ev T' x):bL P T H io=bL P T' H io:=by
 cases io <;> simp only[bZ.bT]at h
 case raw o ty=>exact Ue (fun cs b e=>hsel cs b ty (by rw[e])) h
 case build z ps=>simp only[bL];rw[Ik h]
 case Kz f first captured=>
  simp only[bL]
  rw[qd fun x hx=>h x (List.mem_append_left _ hx),qd (l:=captured) fun x hx=>h x (List.mem_append_right _ hx)]
 case dn s x lo hi mx=>
  have hb:=fun len=>wZ (len:=len) fun y hy=>h y (List.mem_cons_of_mem _ hy)
  simp only[bL,h x (by simp),hb]
 case yY s n x lo hi mx=>
  have hb:=fun len=>wZ (len:=len) fun y hy=>h y (List.mem_cons_of_mem _ hy)
  simp only[bL,h x (by simp),hb]
 case PL x lo hi=>
  have hb:=fun len=>wZ (len:=len) (mx:=none) fun y hy=>h y (List.mem_cons_of_mem _ (by simpa using hy))
  simp only[bL,h x (by simp),hb]
 all_goals first
  |rfl
  |(simp only[bL];rename_i x;rw[h x (by simp)];done)
  |(simp only[bL];rename_i x _;rw[h x (by simp)];done)
  |(simp only[bL];rename_i x y;rw[h x (by simp),h y (by simp)];done)
  |(simp only[bL];rename_i x y z;rw[h x (by simp),h y (by simp),h z (by simp)];done)
theorem M4 {T T':Env}{io:bZ}(h: ∀x ∈ io.bT,ev T x=ev T' x):jq T io=jq T' io:=by
 cases io <;> simp only[bZ.bT]at h
 case buildSlice n z ps=>simp only[jq];rw[Ik h]
 all_goals first
  |rfl
  |(simp only[jq];rename_i x;rw[h x (by simp)];done)
  |(simp only[jq];rename_i x y;rw[h x (by simp),h y (by simp)];done)
theorem R4 {P:Program}{T T':Env}{H:aa}{io:bZ}(h: ∀x ∈ io.bT,ev T x=ev T' x):kZ P T H io=kZ P T' H io:=by
 cases io <;> simp only[bZ.bT]at h
 all_goals first
  |rfl
  |(simp only[kZ];rename_i x;rw[h x (by simp)];done)
  |(simp only[kZ];rename_i x y;rw[h x (by simp),h y (by simp)];done)
  |(simp only[kZ];rename_i x y z;rw[h x (by simp),h y (by simp),h z (by simp)];done)
theorem PX {C:bS}{T T':Env}{H:aa}{K:Value→aa→Prop}{io:bZ}(h: ∀x ∈ io.bT,ev T x=ev T' x):rR C T H K io=rR C T' H K io:=by
 cases io <;> simp only[bZ.bT]at h
 case call f args=>simp only[rR];rw[qd h]
 case nO f args=>
  simp only[rR]
  rw[h f (by simp),qd fun x hx=>h x (List.mem_cons_of_mem _ hx)]
 case rangeMap x=>simp only[rR];rw[h x (by simp)]
 case wQ x=>simp only[rR];rw[h x (by simp)]
 case rP x=>simp only[rR];rw[h x (by simp)]
 all_goals rfl
theorem Uf {P:Program}{C:bS}{T T':Env}{H:aa}{K:Value→aa→Prop}{io:bZ}(hsel: ∀cs b ty,io ≠ .raw (.select cs b) ty)(h: ∀x ∈ io.bT,ev T x=ev T' x):NQ P C T H io K=NQ P C T' H io K:=by
 unfold NQ
 rw[M3 hsel h,M4 h,R4 h,PX h]
theorem Ms {T T':Env}{g:Option (Nat×Bool)}(h: ∀d b,g=some (d,b)→T d=T' d):dI T g=dI T' g:=by
 cases g with
 |none=>rfl
 |some x=>obtain⟨d,b⟩:=x;unfold dI;simp only[h d b rfl]
theorem N9 {P:Program}{T:Env}{H H':aa}{io:bZ}(h:io.looks=false):bL P T H io=bL P T H' io:=by
 cases io <;> first
  |rfl
  |(simp[bZ.looks]at h;done)
  |skip
 case yY n s x lo hi mx=>
  simp only[bL]
  have: ∀(a:Option Addr) l hh m,n<dY→cZ H s a n n l hh m=cZ H' s a n n l hh m:=by
   intro a l hh m hn
   unfold cZ
   rw[if_pos hn,if_pos hn]
  split
  ·split
   ·split
    ·rename_i hn;exact this _ _ _ _ hn
    ·rfl
   ·rfl
  ·rfl
def aa.sub (H H':aa):Prop:=∀b o,H.get b=some o→H'.get b=some o
theorem VE {P:Program}{T:Env}{H H':aa}{io:bZ}{v:Value}(hs:H.sub H')(h:bL P T H io=some v):bL P T H' io=some v:=by
 have hL: ∀b o n l,H.aP b o n=some l→H'.aP b o n=some l:=by
  intro b o n l hl
  unfold aa.aP at hl ⊢
  cases hg:H.get b with
  |none=>rw[hg]at hl;simp at hl
  |some x=>rw[hs b x hg];rw[hg]at hl;exact hl
 have h1: ∀b o v,H.ah b o=some v→H'.ah b o=some v:=by
  intro b o v hl
  unfold aa.ah at hl ⊢
  cases hg:H.get b with
  |none=>rw[hg]at hl;simp at hl
  |some x=>rw[hs b x hg];rw[hg]at hl;exact hl
 by_cases hl:io.looks=true
 ·cases io <;> first|(simp[bZ.looks]at hl;done)|skip
  case ah x=>
   simp only[bL]at h ⊢
   split at h
   ·exact h1 _ _ _ h
   ·cases h
  case ak n x=>
   simp only[bL]at h ⊢
   split at h
   ·rename_i b o _
    cases hq:H.aP b o n with
    |none=>rw[hq]at h;simp at h
    |some l=>rw[hL _ _ _ _ hq];rw[hq]at h;exact h
   ·cases h
  case yX x=>
   simp only[bL]at h ⊢
   split at h
   ·exact h
   ·rename_i b o n _ _
    cases hq:H.aP b o n with
    |none=>rw[hq]at h;simp at h
    |some l=>rw[hL _ _ _ _ hq];rw[hq]at h;exact h
   ·cases h
  case KC x=>
   simp only[bL]at h ⊢
   split at h
   ·exact h
   ·rename_i r _
    cases hg:H.get r with
    |none=>rw[hg]at h;simp at h
    |some o=>rw[hs r o hg];rw[hg]at h;exact h
   ·cases h
  case lookup kt z ok m k=>
   simp only[bL]at h ⊢
   have hent: ∀es,qj H (ev T m)=some es→qj H' (ev T m)=some es:=by
    intro es he
    unfold qj at he ⊢
    split at he
    ·exact he
    ·rename_i r _
     cases hg:H.get r with
     |none=>rw[hg]at he;simp at he
     |some o=>simp only[hs r o hg];rw[hg]at he;exact he
    ·cases he
   split at h
   ·rename_i es he
    rw[hent es he]
    exact h
   ·cases h
  case dn s x lo hi mx=>
   simp only[bL]at h ⊢
   split at h
   ·rename_i a len cap _
    split at h
    ·rename_i l hh m hb
     unfold cZ at h ⊢
     split at h
     ·rename_i hc;rw[if_pos hc];exact h
     ·rename_i hc
      rw[if_neg hc]
      split at h
      ·rename_i b o _
       split at h
       ·rename_i hcond
        have hf:y5 H b (o+m.getD hh*s)=true→y5 H' b (o+m.getD hh*s)=true:=by
         intro hf
         unfold y5 at hf ⊢
         cases hg:H.get b with
         |none=>rw[hg]at hf;simp at hf
         |some o=>rw[hs b o hg];rw[hg]at hf;exact hf
        rw[if_pos ⟨hcond.1,hcond.2.1,hcond.2.2.imp id hf⟩]
        exact h
       ·cases h
      ·cases h
    ·cases h
   ·cases h
 ·rw[N9 (H':=H) (by simpa using hl)]at h
  rw[N9 (H':=H) (by simpa using hl)]
  exact h
theorem R5 {P:Program}{o:Oper}{io:bZ}(hc:lW P o=some io): ∀cs b,o.op ≠ .select cs b:=by
 intro cs b he
 unfold lW at hc
 split at hc
 ·cases hc
 ·rw[he]at hc;simp at hc
theorem xe {place:Nat→Option (Nat×Nat)}: ∀{l:List (Nat×Operand)} {ps:List ((Nat×Nat)×Operand)},fq place l=some ps→ps.map (·.2)=l.map (·.2)
 |[],ps,h=>by simp only[fq,Option.some.injEq]at h;subst h;rfl
 |(i,x)::r,ps,h=>by
  simp only[fq,bind,Option.bind,pure]at h
  cases hp:place i with
  |none=>simp[hp]at h
  |some p=>
   cases hr:fq place r with
   |none=>simp[hp,hr]at h
   |some rs=>
    simp only[hp,hr,Option.some.injEq]at h
    subst h
    simp[xe hr]
structure AR (op:Op)(io:bZ):Prop where
 mem: ∀x ∈ io.bT,x ∈ op.operands.toList∨∃v,x = .const v
 sel: ∀cs b ty,io ≠ .raw (.select cs b) ty
theorem AR.raw {op:Op}{ty:TypeId}(h: ∀cs b,op ≠ .select cs b):AR op (.raw op ty):=
 ⟨fun x hx=>.inl hx,fun cs b ty he=>by injection he with h1;exact h cs b h1⟩
theorem Gy {P:Program}{o:Oper}{io:bZ}(hc:lW P o=some io):AR o.op io:=by
 have hsel:=R5 hc
 unfold lW at hc
 split at hc
 ·cases hc
 rename_i hok0
 clear hok0
 obtain⟨dst,op,ty,pos,after,g⟩:=o
 simp only at hc hsel ⊢
 cases op with
 |select cs b=>simp at hc
 |move x=>simp at hc;subst hc;exact⟨by simp[bZ.bT,Op.operands],by simp⟩
 |assign x=>simp at hc;subst hc;exact⟨by simp[bZ.bT,Op.operands],by simp⟩
 |pick c x y=>simp at hc;subst hc;exact⟨by simp[bZ.bT,Op.operands],by simp⟩
 |alloc t=>cases hz:fU P t <;> simp[hz]at hc;subst hc;exact⟨by simp[bZ.bT],by simp⟩
 |box t x=>simp at hc;subst hc;exact⟨by simp[bZ.bT,Op.operands],by simp⟩
 |build t parts=>
  simp only[]at hc
  split at hc
  ·rename_i z fs hz hu
   cases hp:nR P fs.toList with
   |none=>simp[hp]at hc
   |some pl=>
    cases hq:fq (pl[·]?) parts.toList with
    |none=>simp[hp,hq]at hc
    |some ps=>simp[hp,hq]at hc;subst hc;exact⟨by simp only[bZ.bT,Op.operands,xe hq];intro x hx;exact .inl hx,by simp⟩
  ·rename_i z k e hz hu
   cases hsz:bq P e with
   |none=>simp[hsz]at hc
   |some s=>
    cases hq:fq (fun i=>some (i*s,s)) parts.toList with
    |none=>simp[hsz,hq]at hc
    |some ps=>simp[hsz,hq]at hc;subst hc;exact⟨by simp only[bZ.bT,Op.operands,xe hq];intro x hx;exact .inl hx,by simp⟩
  ·cases hc
 |buildSlice t len parts=>
  simp only[]at hc
  split at hc
  ·split at hc
   ·split at hc
    ·rename_i e hu _ _ s z hs hz hcond
     cases hq:fq (fun i=>some (i*s,s)) parts.toList with
     |none=>simp[hq]at hc
     |some ps=>simp[hq]at hc;subst hc;exact⟨by simp only[bZ.bT,Op.operands,xe hq];intro x hx;exact .inl hx,by simp⟩
    ·cases hc
   ·cases hc
  ·cases hc
 |insert t m k x=>simp only[]at hc;split at hc <;> simp at hc;subst hc;exact⟨by simp[bZ.bT,Op.operands],by simp⟩
 |mapUpdate t m k x=>simp only[]at hc;split at hc <;> simp at hc;subst hc;exact⟨by simp[bZ.bT,Op.operands],by simp⟩
 |load t x=>simp only[]at hc;split at hc <;> simp at hc <;> subst hc <;> exact⟨by simp[bZ.bT,Op.operands],by simp⟩
 |store t x y=>simp only[]at hc;cases hsz:bq P t <;> simp[hsz]at hc;subst hc;exact⟨by simp[bZ.bT,Op.operands],by simp⟩
 |nilCheck x=>simp at hc;subst hc;exact⟨by simp[bZ.bT,Op.operands],by simp⟩
 |binOp Vx t x y yt=>
  simp only[]at hc
  have heq: ∀neg,wU P (.binOp Vx t x y yt) ty neg t x y=io→AR (.binOp Vx t x y yt) io:=by
   intro neg he
   unfold wU at he
   split at he
   ·split at he
    ·subst he;exact⟨by simp[bZ.bT,Op.operands],by simp⟩
    ·subst he;exact AR.raw hsel
   ·subst he;exact AR.raw hsel
  cases Vx <;> simp only[Option.some.injEq]at hc <;> first
   |exact heq _ hc
   |(subst hc;exact AR.raw hsel)
 |convert s d x=>
  simp only[]at hc
  split at hc
  ·split at hc <;> simp at hc;subst hc;exact⟨by simp[bZ.bT,Op.operands],by simp⟩
  ·split at hc <;> simp at hc;subst hc;exact⟨by simp[bZ.bT,Op.operands],by simp⟩
  ·simp at hc;subst hc;exact AR.raw hsel
 |makeInterface t x=>simp only[]at hc;split at hc <;> simp at hc;subst hc;exact⟨by simp[bZ.bT,Op.operands],by simp⟩
 |makeFunc fn first captured=>
  cases fn with
  |func f=>simp at hc;subst hc;exact⟨fun x hx=>.inl (by simpa[bZ.bT,Op.operands]using hx),by simp⟩
  |_=>simp at hc;subst hc;exact AR.raw hsel
 |makeMap t r=>
  cases r with
  |none=>simp at hc;subst hc;exact⟨by simp[bZ.bT],by simp⟩
  |some r=>simp at hc;subst hc;exact AR.raw hsel
 |makeSlice t l c=>
  simp only[]at hc
  split at hc
  ·split at hc
   ·split at hc
    ·injection hc with hc;subst hc;exact⟨by simp[bZ.bT,Op.operands],by simp⟩
    ·cases hc
   ·cases hc
  ·cases hc
 |slice t x lo hi mx=>
  simp only[]at hc
  have hm: ∀y,y ∈ x::(lo.toList++hi.toList++mx.toList)→y ∈ (Op.slice t x lo hi mx).operands.toList:=by
   intro y hy
   simp only[Op.operands]
   simpa[or_assoc]using hy
  split at hc
  ·rename_i e hu
   cases hsz:bq P e with
   |none=>simp[hsz]at hc
   |some s=>simp only[hsz,Option.bind_some]at hc;split at hc <;> simp at hc;subst hc;exact⟨fun y hy=>.inl (hm y hy),by simp⟩
  ·rename_i k e hu
   cases hsz:bq P e with
   |none=>simp[hsz]at hc
   |some s=>simp only[hsz,Option.bind_some]at hc;split at hc <;> simp at hc;subst hc;exact⟨fun y hy=>.inl (hm y hy),by simp⟩
  ·simp at hc;subst hc;exact AR.raw hsel
  ·cases hc
 |fieldAddr t x i=>
  simp only[]at hc
  split at hc
  ·split at hc
   ·rename_i f hf
    cases hsz:bq P f.type with
    |none=>simp[hsz]at hc
    |some s=>simp only[hsz,Option.bind_some]at hc;split at hc <;> simp at hc;subst hc;exact⟨by simp[bZ.bT,Op.operands],by simp⟩
   ·cases hc
  ·cases hc
 |field t x i=>
  simp only[]at hc
  split at hc
  ·split at hc
   ·split at hc <;> simp at hc <;> subst hc <;> exact⟨by simp[bZ.bT,Op.operands],by simp⟩
   ·cases hc
  ·cases hc
 |indexAddr t x i=>
  simp only[]at hc
  split at hc
  ·rename_i e hu;cases hsz:bq P e <;> simp[hsz]at hc;subst hc;exact⟨by simp[bZ.bT,Op.operands],by simp⟩
  ·rename_i k e hu
   split at hc
   ·cases hsz:bq P e <;> simp[hsz]at hc;subst hc;exact⟨by simp[bZ.bT,Op.operands],by simp⟩
   ·cases hc
  ·cases hc
 |index t x i=>
  simp only[]at hc
  split at hc
  ·simp at hc;subst hc;exact AR.raw hsel
  ·split at hc <;> simp at hc <;> subst hc <;> exact⟨by simp[bZ.bT,Op.operands],by simp⟩
  ·cases hc
 |lookup t m k ok=>
  simp only[]at hc
  split at hc
  ·rename_i kt e hu;cases hz:fU P e <;> simp[hz]at hc;subst hc;exact⟨by simp[bZ.bT,Op.operands],by simp⟩
  ·cases hc
 |typeAssert x xt t ok=>
  simp only[]at hc
  split at hc
  ·cases hc
  ·cases hz:fU P t <;> simp[hz]at hc;subst hc;exact⟨by simp[bZ.bT,Op.operands],by simp⟩
  ·cases hc
 |extract x i=>simp at hc;subst hc;exact⟨by simp[bZ.bT,Op.operands],by simp⟩
 |call c=>
  obtain⟨callee,args,tys⟩:=c
  simp only[]at hc
  split at hc
  ·injection hc with hc;subst hc;exact⟨fun x hx=>.inl (by simp only[bZ.bT]at hx;simp[Op.operands,Call.operands];exact .inr (by simpa using hx)),by simp⟩
  ·injection hc with hc;subst hc;exact⟨fun x hx=>.inl (by simpa[Op.operands,Call.operands,bZ.bT]using hx),by simp⟩
  ·rename_i b
   have hmem: ∀x,x ∈ args.toList→x ∈ (Op.call ⟨.builtin b,args,tys⟩).operands.toList:=by intro x hx;simp[Op.operands,Call.operands];simpa using hx
   have fin: ∀{i:bZ},(i=io)→(∀x ∈ i.bT,x ∈ args.toList∨∃v,x = .const v)→(∀cs b ty,i ≠ .raw (.select cs b) ty)→AR (.call ⟨.builtin b,args,tys⟩) io:=
    fun e h1 h2=>e▸⟨fun x hx=>(h1 x hx).imp (hmem x) id,h2⟩
   unfold jv at hc
   split at hc
   ·rename_i t x hty hxs;rw[hxs]at fin
    split at hc
    ·injection hc with hc;exact fin hc (by simp[bZ.bT]) (by simp)
    ·injection hc with hc;exact fin hc (by simp[bZ.bT]) (by simp)
    ·injection hc with hc;exact fin hc (by simp[bZ.bT]) (by simp)
    ·split at hc
     ·injection hc with hc;exact fin hc (by simp[bZ.bT]) (by simp)
     ·cases hc
    ·injection hc with hc;subst hc;exact AR.raw hsel
   ·rename_i t x hty hxs;rw[hxs]at fin
    split at hc
    ·injection hc with hc;exact fin hc (by simp[bZ.bT]) (by simp)
    ·cases hc
   ·rename_i t u s x hty hxs;rw[hxs]at fin
    split at hc
    ·split at hc <;> first|(split at hc <;> first|(injection hc with hc;exact fin hc (by simp[bZ.bT]) (by simp))|cases hc)|cases hc
    ·cases hc
   ·rename_i t u s x hty hxs;rw[hxs]at fin
    split at hc
    ·rename_i e _ _ _;cases hq:bq P e <;> simp[hq]at hc;exact fin hc (by simp[bZ.bT]) (by simp)
    ·cases hc
   ·rename_i t x hty hxs;rw[hxs]at fin
    split at hc
    ·rename_i e _
     cases hq:fU P e with
     |none=>simp[hq]at hc
     |some z=>simp only[hq,Option.bind_some]at hc;split at hc <;> simp at hc;exact fin hc (by simp[bZ.bT]) (by simp)
    ·cases hc
   ·rename_i t u s x hty hxs;rw[hxs]at fin
    split at hc <;> first|(injection hc with hc;exact fin hc (by simp[bZ.bT]) (by simp))|cases hc
   all_goals first|(injection hc with hc;subst hc;exact AR.raw hsel)|cases hc
  ·cases hc
 |range t x=>
  simp only[]at hc
  split at hc
  ·injection hc with hc;subst hc;exact⟨by simp[bZ.bT,Op.operands],by simp⟩
  ·cases hc
 |next x s=>
  cases s with
  |true=>simp only[]at hc;cases hc
  |false=>simp only[]at hc;injection hc with hc;subst hc;exact⟨by simp[bZ.bT,Op.operands],by simp⟩
 |entry x=>simp only[Option.some.injEq]at hc;subst hc;exact⟨by simp[bZ.bT,Op.operands],by simp⟩
 |_=>simp at hc;subst hc;exact AR.raw hsel
section
def PY (acc:List Nat)(o:Oper):Nat:=o.after.toList.foldl (fun s e=>if Region.binds .any e then s ||| 2 ^ e.on ||| acc.getD e.on 0 else s) 0
theorem M5: ∀(os:List Oper) (acc:List Nat),∃r,eY os acc=acc++r∧r.length=os.length∧∀k o,os[k]? =some o→r[k]? =some (PY (acc++r.take k) o)
 |[],acc=>⟨[],by simp[eY],rfl,by simp⟩
 |o::os,acc=>by
  obtain⟨r,h1,h2,h3⟩:=M5 os (acc++[PY acc o])
  refine⟨PY acc o::r,?_,by simp[h2],fun k o' hk=> ?_⟩
  ·show eY os (acc++[PY acc o])=_
   rw[h1];simp
  ·cases k with
   |zero=>simp at hk;subst hk;simp
   |succ k=>
    have:=h3 k o' (by simpa using hk)
    simpa using this
theorem M6 {acc:List Nat}{j:Nat}: ∀(l:List Edge) (s:Nat),(l.foldl (fun s e=>if Region.binds .any e then s ||| 2 ^ e.on ||| acc.getD e.on 0 else s) s).testBit j=true →
 s.testBit j=true∨∃e ∈ l,Region.binds .any e=true∧(e.on=j∨(acc.getD e.on 0).testBit j=true)
 |[],s,h=>.inl h
 |e::l,s,h=>by
  simp only[List.foldl_cons]at h
  rcases M6 l _ h with h1|⟨e',he',h1⟩
  ·by_cases hb:Region.binds .any e=true
   ·rw[if_pos hb,Nat.testBit_or,Nat.testBit_or,Nat.testBit_two_pow]at h1
    simp only[Bool.or_eq_true,decide_eq_true_eq]at h1
    rcases h1 with (h1|h1)|h1
    ·exact .inl h1
    ·exact .inr ⟨e,by simp,hb,.inl h1⟩
    ·exact .inr ⟨e,by simp,hb,.inr h1⟩
   ·rw[if_neg hb]at h1;exact .inl h1
  ·exact .inr ⟨e',by simp[he'],h1⟩
theorem ze: ∀(os:List Oper) (i:Nat),iB os i=true→∀k o,os[k]? =some o→∀e ∈ o.after.toList,Region.binds .any e=true→e.on<i+k
 |[],_,_,k,o,hk,_,_,_=>by simp at hk
 |o'::os,i,h,k,o,hk,e,he,hb=>by
  simp only[iB,Bool.and_eq_true]at h
  cases k with
  |zero=>
   simp at hk;subst hk
   have:=List.all_eq_true.1 h.1 e he
   simpa[hb]using this
  |succ k=>
   have:=ze os (i+1) h.2 k o (by simpa using hk) e he hb
   omega
section
variable {ops:Array Oper}
theorem PZ (hb:iB ops.toList 0=true){i:Nat}{o:Oper}{j:Nat}(ho:ops[i]? =some o)(h:waits (eY ops.toList []) i j=true):
 ∃e ∈ o.after.toList,Region.binds .any e=true∧e.on<i∧(e.on=j∨waits (eY ops.toList []) e.on j=true):=by
 obtain⟨r,h1,h2,h3⟩:=M5 ops.toList []
 have ho':ops.toList[i]? =some o:=by simpa using ho
 have hr:=h3 i o ho'
 rw[List.nil_append]at h1 hr
 unfold waits at h ⊢
 rw[h1]at h ⊢
 have hg:r.getD i 0=PY (r.take i) o:=by rw[List.getD_eq_getElem?_getD,hr];rfl
 rw[hg]at h
 rcases M6 _ _ h with h4|⟨e,he,hbe,h4⟩
 ·simp at h4
 ·have hlt:e.on<i:=by have:=ze ops.toList 0 hb i o ho' e he hbe;omega
  refine⟨e,he,hbe,hlt,h4.imp id fun h5=> ?_⟩
  have:(r.take i).getD e.on 0=r.getD e.on 0:=by
   rw[List.getD_eq_getElem?_getD,List.getD_eq_getElem?_getD,List.getElem?_take,if_pos hlt]
  rw[this]at h5;exact h5
def Cl (ops:Array Oper)(S:Nat→Prop):Prop:=∀i o,ops[i]? =some o→S i→∀e ∈ o.after.toList,Region.binds .any e=true→S e.on
theorem EM (hb:iB ops.toList 0=true){S:Nat→Prop}(hcl:Cl ops S): ∀(i:Nat) (o:Oper) (j:Nat),ops[i]? =some o→(∀e ∈ o.after.toList,Region.binds .any e=true→S e.on) →
 waits (eY ops.toList []) i j=true→S j:=by
 intro i
 induction i using Nat.strongRecOn with
 |_ i ih=>
  intro o j ho hr hw
  obtain⟨e,he,hbe,hlt,h4⟩:=PZ hb ho hw
  have hs:=hr e he hbe
  rcases h4 with rfl|h4
  ·exact hs
  ·have hlt':e.on<ops.size:=Nat.lt_trans hlt (Array.getElem?_eq_some_iff.1 ho).1
   exact ih e.on hlt ops[e.on] j (by simp[hlt']) (hcl e.on _ (by simp[hlt']) hs) h4
theorem VF (hb:iB ops.toList 0=true){S:Nat→Prop}(hcl:Cl ops S){i j:Nat}{o:Oper}(ho:ops[i]? =some o)(hs:S i)(hw:waits (eY ops.toList []) i j=true):S j:=
 EM hb hcl i o j ho (hcl i o ho hs) hw
def fF (ops:Array Oper)(i:Nat):Option Nat:=(ops[i]?).bind (·.dst)
end
section
variable {P:Program} {C:bS} {n:Nat} {ops:Array Oper} {xs:List aN}
theorem C9: ∀{os:List Oper} {xs:List aN},iA P n ops os=some xs→xs.length=os.length∧∀(i:Nat) (o:Oper),os[i]? =some o→∃x,xs[i]? =some x∧rT P n ops o=some x
 |[],xs,h=>by simp only[iA,Option.some.injEq]at h;subst h;exact⟨rfl,by simp⟩
 |o::os,xs,h=>by
  simp only[iA]at h
  cases hx:rT P n ops o with
  |none=>rw[hx]at h;simp at h
  |some x=>
   cases hxs:iA P n ops os with
   |none=>rw[hx,hxs]at h;simp at h
   |some r=>
    rw[hx,hxs]at h
    simp only[Option.some.injEq]at h
    subst h
    obtain⟨h1,h2⟩:=C9 hxs
    refine⟨by simp[h1],fun i o' hi=> ?_⟩
    cases i with
    |zero=>simp at hi;subst hi;exact⟨x,by simp,hx⟩
    |succ i=>
     obtain⟨y,hy,hc⟩:=h2 i o' (by simpa using hi)
     exact⟨y,by simpa using hy,hc⟩
structure rV (P:Program)(n:Nat)(ops:Array Oper)(o:Oper)(x:aN):Prop where
 op:lW P o=some x.op
 guard:pK ops o.guard=some x.guard
 dst:x.dst=o.dst
 lt: ∀d,o.dst=some d→d<n
 glt: ∀d b,x.guard=some (d,b)→d<n
theorem Mt {o:Oper}{x:aN}(h:rT P n ops o=some x):rV P n ops o x:=by
 unfold rT at h
 split at h
 case h_2=>cases h
 rename_i io g hio hg
 split at h
 case isFalse=>cases h
 rename_i hcond
 injection h with h
 subst h
 simp only[Bool.and_eq_true]at hcond
 exact⟨hio,hg,rfl,fun d hd=>by have:=hcond.1;rw[hd]at this;simpa[ltO]using this,fun d b hgb=>by have:=hcond.2;simp only[]at hgb;rw[hgb]at this;simpa[ltG]using this⟩
def Agree (ops:Array Oper)(o:Oper)(E E':Env):Prop:=∀d ∈ Dl ops o,E d=E' d
theorem Agree.bT {o:Oper}{x:aN}(hx:rV P n ops o x){E E':Env}(h:Agree ops o E E'): ∀y ∈ x.op.bT,ev E y=ev E' y:=by
 intro y hy
 rcases(Gy hx.op).mem y hy with h1|⟨v,rfl⟩
 ·cases y with
  |tmp t=>exact h t (by unfold Dl Oper.looksAt;exact List.mem_append_left _ (List.mem_filterMap.2 ⟨.tmp t,h1,rfl⟩))
  |_=>rfl
 ·rfl
theorem Agree.guard {o:Oper}{x:aN}(hx:rV P n ops o x){E E':Env}(h:Agree ops o E E'):dI E x.guard=dI E' x.guard:=by
 refine Ms fun d b hd=>h d ?_
 have hg:=hx.guard
 rw[hd]at hg
 cases hog:o.guard with
 |none=>rw[hog]at hg;simp[pK]at hg
 |some jw=>
  obtain⟨j,w⟩:=jw
  rw[hog]at hg
  simp only[pK]at hg
  cases hj:(ops[j]?).bind (·.dst)with
  |none=>rw[hj]at hg;simp at hg
  |some d'=>
   rw[hj]at hg
   simp only[Option.some.injEq,Prod.mk.injEq]at hg
   unfold Dl Oper.looksAt
   rw[hog]
   simp only[hj]
   exact List.mem_append_right _ (by simp[hg.1])
theorem Agree.bL {o:Oper}{x:aN}(hx:rV P n ops o x){E E':Env}(h:Agree ops o E E')(H:aa):bL P E H x.op=bL P E' H x.op:=M3 (Gy hx.op).sel (h.bT hx)
theorem Agree.jq {o:Oper}{x:aN}(hx:rV P n ops o x){E E':Env}(h:Agree ops o E E'):jq E x.op=jq E' x.op:=M4 (h.bT hx)
theorem Agree.NQ {o:Oper}{x:aN}(hx:rV P n ops o x){E E':Env}(h:Agree ops o E E')(H:aa)(K:Value→aa→Prop):NQ P C E H x.op K=NQ P C E' H x.op K:=Uf (Gy hx.op).sel (h.bT hx)
end
end
section
open Classical in
noncomputable def ES (ops:Array Oper)(S:Nat→Prop)(T T0:Env):Env:=fun d=>if ∃i,S i∧fF ops i=some d then T d else T0 d
open Classical in
noncomputable def EI (ops:Array Oper)(Et:List Nat)(i:Nat)(T T0:Env):Env:=fun d=>if ∃j,waits Et i j=true∧fF ops j=some d then T d else T0 d
theorem uz {ops:Array Oper}{S:Nat→Prop}{T T0:Env}{d:Nat}(h: ∃i,S i∧fF ops i=some d):ES ops S T T0 d=T d:=by unfold ES;rw[if_pos h]
theorem xg {ops:Array Oper}{S:Nat→Prop}{T T0:Env}{d:Nat}(h: ¬ ∃i,S i∧fF ops i=some d):ES ops S T T0 d=T0 d:=by unfold ES;rw[if_neg h]
theorem KU {ops:Array Oper}{Et:List Nat}{i:Nat}{T T0:Env}{d:Nat}(h: ∃j,waits Et i j=true∧fF ops j=some d):EI ops Et i T T0 d=T d:=by unfold EI;rw[if_pos h]
theorem KV {ops:Array Oper}{Et:List Nat}{i:Nat}{T T0:Env}{d:Nat}(h: ¬ ∃j,waits Et i j=true∧fF ops j=some d):EI ops Et i T T0 d=T0 d:=by unfold EI;rw[if_neg h]
structure dM (P:Program)(n:Nat)(ops:Array Oper)(xs:List aN)(σ:List Nat):Prop where
 comp: ∀(i:Nat) (o:Oper),ops[i]? =some o→∃x,xs[i]? =some x∧rV P n ops o x
 len:xs.length=ops.size
 back:iB ops.toList 0=true
 qbS:σ.length=ops.size
 nodup:σ.Nodup
 slt: ∀i ∈ σ,i<ops.size
 ord:KF xs (eY ops.toList []) [] σ=true
 tmp: ∀(i j:Nat) (oi oj:Oper) (d:Nat),i≠j→ops[i]? =some oi→ops[j]? =some oj→oi.dst=some d→oj.dst≠some d ∧
  (d ∈ Dl ops oj→waits (eY ops.toList []) j i=true∨(waits (eY ops.toList []) i j=true∧NS xs j=false))
 own: ∀(i:Nat) (o:Oper) (d:Nat),ops[i]? =some o→o.dst=some d→d ∉ Dl ops o
theorem Il {xs:List aN}{Et:List Nat}: ∀(r pre q:List Nat),KF xs Et pre (q++r)=true→KF xs Et (pre++q) r=true
 |r,pre,[],h=>by simpa using h
 |r,pre,i::q,h=>by
  simp only[List.cons_append,KF,Bool.and_eq_true]at h
  have:=Il r (pre++[i]) q h.2
  simpa using this
section
variable {P:Program} {C:bS} {n:Nat} {ops:Array Oper} {xs:List aN} {σ:List Nat}
theorem dM.head (h:dM P n ops xs σ){pre rest:List Nat}{i:Nat}(hs:σ=pre++i::rest){j:Nat}(hj:j ∈ pre):
 (rU xs j=true→waits (eY ops.toList []) i j=true)∧waits (eY ops.toList []) j i=false:=by
 have ho:=h.ord
 rw[hs]at ho
 have:=Il (i::rest) [] pre ho
 simp only[List.nil_append,KF,Bool.and_eq_true]at this
 have h1:=List.all_eq_true.1 this.1 j hj
 simp only[Bool.and_eq_true,Bool.or_eq_true,Bool.not_eq_true']at h1
 refine⟨fun ha=> ?_,h1.2⟩
 rcases h1.1 with h2|h2
 ·rw[ha]at h2;cases h2
 ·exact h2
theorem dM.get (h:dM P n ops xs σ){i:Nat}(hi:i<ops.size): ∃o x,ops[i]? =some o∧xs[i]? =some x∧rV P n ops o x:=by
 obtain⟨x,h1,h2⟩:=h.comp i ops[i] (by simp[hi])
 exact⟨ops[i],x,by simp[hi],h1,h2⟩
theorem mP {i d:Nat}(h:fF ops i=some d): ∃o,ops[i]? =some o∧o.dst=some d:=by
 unfold fF at h
 cases ho:ops[i]? with
 |none=>rw[ho]at h;cases h
 |some o=>rw[ho]at h;exact⟨o,rfl,h⟩
theorem qo {i:Nat}{o:Oper}(h:ops[i]? =some o):fF ops i=o.dst:=by unfold fF;rw[h];rfl
theorem dM.uniq (h:dM P n ops xs σ){i j d:Nat}(h1:fF ops i=some d)(h2:fF ops j=some d):i=j:=by
 obtain⟨oi,hi,hdi⟩:=mP h1
 obtain⟨oj,hj,hdj⟩:=mP h2
 by_cases he:i=j
 ·exact he
 ·exact absurd hdj (h.tmp i j oi oj d he hi hj hdi).1
def qah (P:Program)(ops:Array Oper)(xs:List aN)(b0:Nat)(T T0:Env)(H:aa)(R:Ren)(xh:Nat→Nat)(i:Nat):Prop:=
 ∀x,xs[i]? =some x→∃v,(∀d,x.dst=some d→T d=v)∧match dI (EI ops (eY ops.toList []) i T T0) x.guard with
  |false=>v=undef
  |true=>(x.op.kind = .rd∧bL P (EI ops (eY ops.toList []) i T T0) H x.op=some v) ∨
   (x.op.kind = .al∧∃obj mk,jq (EI ops (eY ops.toList []) i T T0) x.op=some (obj,mk)∧v=mk (xh i)∧H.get (xh i)=some obj∧¬ R.dom (xh i)∧xh i<H.next∧b0≤xh i)
def makes (ops:Array Oper)(xs:List aN)(T T0:Env)(i:Nat):Prop:=∃x,xs[i]? =some x∧x.op.kind = .al∧dI (EI ops (eY ops.toList []) i T T0) x.guard=true
structure Inv (P:Program)(C:bS)(n:Nat)(ops:Array Oper)(xs:List aN)(σ:List Nat)(K:Env→aa→Prop)(T0:Env)(R0:Ren)(H0:aa)(w0:World)
 (pre rest:List Nat) (S:Nat→Prop) (xh:Nat→Nat) (T:Env) (H:aa) (R:Ren) (a:Act) (w:World):Prop where
 sched:σ=pre++rest
 sub: ∀i,S i→i ∈ pre
 closed:Cl ops S
 acts: ∀i ∈ pre,rU xs i=true→S i
 run:bM P C (Mj xs (eY ops.toList []) pre rest) K T H
 Eu:jC R H w
 tmps:kY n R (ES ops S T T0) a.tmps
 defers:a.defers=[]
 old: ∀d,(∀i ∈ pre,fF ops i≠some d)→T d=T0 d
 pend: ∀i ∈ pre,¬ S i→qah P ops xs H0.next T T0 H R xh i
 inj: ∀i ∈ pre,∀j ∈ pre,¬ S i→¬ S j→makes ops xs T T0 i→makes ops xs T T0 j→xh i=xh j→i=j
 ext:Ext R0 H0 w0 R H w
variable {K:Env→aa→Prop} {T0:Env} {R0:Ren} {H0:aa} {w0:World} {pre rest:List Nat} {S:Nat→Prop} {xh:Nat→Nat} {T:Env} {H:aa} {R:Ren} {a:Act} {w:World}
theorem Im (hR:dM P n ops xs σ)(hcl:Cl ops S){i:Nat}{o:Oper}(ho:ops[i]? =some o)(hr: ∀e ∈ o.after.toList,Region.binds .any e=true→S e.on)(hns: ¬ S i):
 Agree ops o (ES ops S T T0) (EI ops (eY ops.toList []) i T T0):=by
 intro d hd
 by_cases h: ∃j,waits (eY ops.toList []) i j=true∧fF ops j=some d
 ·obtain⟨j,h1,h2⟩:=h
  rw[KU ⟨j,h1,h2⟩,uz ⟨j,EM hR.back hcl i o j ho hr h1,h2⟩]
 ·rw[KV h,xg]
  rintro⟨j,h1,h2⟩
  obtain⟨oj,hj,hdj⟩:=mP h2
  have hji:j≠i:=fun e=>hns (e▸h1)
  rcases(hR.tmp j i oj o d hji hj ho hdj).2 hd with h3|⟨h3,_⟩
  ·exact h ⟨j,h3,h2⟩
  ·exact hns (VF hR.back hcl hj h1 h3)
theorem KW (hR:dM P n ops xs σ){i:Nat}{r:List Nat}(hs:σ=pre++i::r)(hold: ∀d,(∀j ∈ pre,fF ops j≠some d)→T d=T0 d){o:Oper}(ho:ops[i]? =some o):
 Agree ops o T (EI ops (eY ops.toList []) i T T0):=by
 intro d hd
 by_cases h: ∃j,waits (eY ops.toList []) i j=true∧fF ops j=some d
 ·rw[KU h]
 ·rw[KV h]
  refine hold d fun j hj h2=> ?_
  obtain⟨oj,hoj,hdj⟩:=mP h2
  have hji:j≠i:=by
   rintro rfl
   have:=hR.nodup
   rw[hs]at this
   have:=(List.nodup_append.1 this).2.2 j hj j (by simp)
   exact this rfl
  rcases(hR.tmp j i oj o d hji hoj ho hdj).2 hd with h3|⟨h3,_⟩
  ·exact h ⟨j,h3,h2⟩
  ·rw[(hR.head hs hj).2]at h3;cases h3
theorem Oa (hR:dM P n ops xs σ){i j:Nat}(hw:waits (eY ops.toList []) i j=false){d:Option Nat}(hd:fF ops j=d)(v:Value):
 EI ops (eY ops.toList []) i (T.put d v) T0=EI ops (eY ops.toList []) i T T0:=by
 funext e
 by_cases h: ∃k,waits (eY ops.toList []) i k=true∧fF ops k=some e
 ·rw[KU h,KU h]
  cases d with
  |none=>rfl
  |some d=>
   show(if e=d then v else T e)=T e
   rw[if_neg]
   rintro rfl
   obtain⟨k,h1,h2⟩:=h
   rw[hR.uniq h2 hd]at h1
   rw[hw]at h1;cases h1
 ·rw[KV h,KV h]
theorem VG {i:Nat}{d:Option Nat}(hd:fF ops i=d)(hR:dM P n ops xs σ)(v:Value):ES ops (fun k=>S k∨k=i) (T.put d v) T0=(ES ops S T T0).put d v:=by
 funext e
 cases d with
 |none=>
  show ES ops (fun k=>S k∨k=i) T T0 e=ES ops S T T0 e
  by_cases h: ∃k,S k∧fF ops k=some e
  ·obtain⟨k,h1,h2⟩:=h
   rw[uz ⟨k,h1,h2⟩,uz ⟨k,.inl h1,h2⟩]
  ·rw[xg h,xg]
   rintro⟨k,h1|rfl,h2⟩
   ·exact h ⟨k,h1,h2⟩
   ·rw[hd]at h2;cases h2
 |some d=>
  show ES ops (fun k=>S k∨k=i) (fun t=>if t=d then v else T t) T0 e=if e=d then v else ES ops S T T0 e
  by_cases he:e=d
  ·subst he
   rw[uz ⟨i,.inr rfl,hd⟩,if_pos rfl,if_pos rfl]
  ·rw[if_neg he]
   by_cases h: ∃k,S k∧fF ops k=some e
   ·obtain⟨k,h1,h2⟩:=h
    rw[uz ⟨k,h1,h2⟩,uz ⟨k,.inl h1,h2⟩,if_neg he]
   ·rw[xg h,xg]
    rintro⟨k,h1|rfl,h2⟩
    ·exact h ⟨k,h1,h2⟩
    ·rw[hd]at h2;injection h2 with h2;exact he h2.symm
theorem XP {i:Nat}{d:Option Nat}(hd:fF ops i=d)(hR:dM P n ops xs σ){v:Value}(hv: ∀k,d=some k→T k=v):ES ops (fun k=>S k∨k=i) T T0=(ES ops S T T0).put d v:=by
 have:T=T.put d v:=by
  funext e
  cases d with
  |none=>rfl
  |some d=>
   show T e=if e=d then v else T e
   by_cases he:e=d
   ·rw[if_pos he,he];exact hv d rfl
   ·rw[if_neg he]
 calc ES ops (fun k=>S k∨k=i) T T0=ES ops (fun k=>S k∨k=i) (T.put d v) T0:=by rw[←this]
  _=_:=VG hd hR v
end
end
section
section
variable {P:Program} {C:bS} {n:Nat} {ops:Array Oper} {xs:List aN} {σ:List Nat}
variable {K:Env→aa→Prop} {T0:Env} {R0:Ren} {H0:aa} {w0:World} {pre rest:List Nat} {S:Nat→Prop} {xh:Nat→Nat} {T:Env} {H:aa} {R:Ren} {a:Act} {w:World}
theorem VH (hb:iB ops.toList 0=true): ∀(i j:Nat) (o:Oper),ops[i]? =some o→waits (eY ops.toList []) i j=true→j<i:=by
 intro i
 induction i using Nat.strongRecOn with
 |_ i ih=>
  intro j o ho hw
  obtain⟨e,_,_,hlt,h4⟩:=PZ hb ho hw
  rcases h4 with rfl|h4
  ·exact hlt
  ·have hlt':e.on<ops.size:=Nat.lt_trans hlt (Array.getElem?_eq_some_iff.1 ho).1
   exact Nat.lt_trans (ih e.on hlt j ops[e.on] (by simp[hlt']) h4) hlt
theorem R6 (hb:iB ops.toList 0=true){i:Nat}{o:Oper}(ho:ops[i]? =some o):waits (eY ops.toList []) i i=false:=by
 cases h:waits (eY ops.toList []) i i with
 |false=>rfl
 |true=>exact absurd (VH hb i i o ho h) (Nat.lt_irrefl _)
theorem pO (hR:dM P n ops xs σ){i:Nat}{r:List Nat}(hs:σ=pre++i::r):i ∉ pre:=by
 intro hi
 have:=hR.nodup
 rw[hs]at this
 exact(List.nodup_append.1 this).2.2 i hi i (by simp) rfl
theorem Dv {T:Env}{d:Option Nat}{v:Value}{e:Nat}(h:d≠some e):T.put d v e=T e:=by
 cases d with
 |none=>rfl
 |some d=>
  show(if e=d then v else T e)=T e
  rw[if_neg (fun he=>h (by rw[he]))]
theorem put_eq {T:Env}{e:Nat}{v:Value}:T.put (some e) v e=v:=by
 show(if e=e then v else T e)=v
 rw[if_pos rfl]
theorem XQ (hR:dM P n ops xs σ){i:Nat}(hns: ¬ S i){d:Option Nat}(hd:fF ops i=d)(v:Value):ES ops S (T.put d v) T0=ES ops S T T0:=by
 funext e
 by_cases h: ∃k,S k∧fF ops k=some e
 ·rw[uz h,uz h]
  refine Dv fun he=> ?_
  obtain⟨k,h1,h2⟩:=h
  rw[he]at hd
  exact hns (hR.uniq hd h2▸h1)
 ·rw[xg h,xg h]
theorem KX (hR:dM P n ops xs σ){i:Nat}{r:List Nat}{o:Oper}{x:aN}{v:Value}{H1:aa}{EN:Nat→Nat}
 (hI:Inv P C n ops xs σ K T0 R0 H0 w0 pre (i::r) S xh T H R a w) (ho:ops[i]? =some o) (hx:xs[i]? =some x) (hco:rV P n ops o x) (hna:rU xs i=false)
 (hsub:H.sub H1) (hnext:H.next≤H1.next) (P5:jC R H1 w) (xk:Ext R0 H0 w0 R H1 w) (hrun:bM P C (Mj xs (eY ops.toList []) (pre++[i]) r) K (T.put x.dst v) H1)
 (VI: ∀j ∈ pre,EN j=xh j) (ZV:makes ops xs (T.put x.dst v) T0 i→EN i=H.next)
 (hp:qah P ops xs H0.next (T.put x.dst v) T0 H1 R EN i):Inv P C n ops xs σ K T0 R0 H0 w0 (pre++[i]) r S EN (T.put x.dst v) H1 R a w:=by
 have hni:=pO hR hI.sched
 have hns: ¬ S i:=fun h=>hni (hI.sub i h)
 have hdi:fF ops i=x.dst:=by rw[qo ho,hco.dst]
 have hne: ∀j ∈ pre,j≠i:=fun j hj e=>hni (e▸hj)
 have Tu: ∀j ∈ pre,EI ops (eY ops.toList []) j (T.put x.dst v) T0=EI ops (eY ops.toList []) j T T0:=fun j hj=>Oa hR (hR.head hI.sched hj).2 hdi v
 have hmk: ∀j ∈ pre,makes ops xs (T.put x.dst v) T0 j→makes ops xs T T0 j:=by
  rintro j hj ⟨y,h1,h2,h3⟩
  rw[Tu j hj]at h3
  exact⟨y,h1,h2,h3⟩
 have hlt: ∀j ∈ pre,¬ S j→makes ops xs T T0 j→xh j<H.next:=by
  rintro j hj hsj ⟨y,h1,h2,h3⟩
  obtain⟨u,_,h4⟩:=hI.pend j hj hsj y h1
  rw[h3]at h4
  rcases h4 with⟨h5,_⟩|⟨_,_,_,_,_,_,_,h6⟩
  ·rw[h2]at h5;cases h5
  ·exact h6.1
 refine⟨by rw[hI.sched];simp,fun j hj=>List.mem_append_left _ (hI.sub j hj),hI.closed,?_,hrun,P5,?_,hI.defers,?_,?_,?_,xk⟩
 ·intro j hj ha
  rcases List.mem_append.1 hj with h1|h1
  ·exact hI.acts j h1 ha
  ·simp at h1;subst h1;rw[hna]at ha;cases ha
 ·rw[XQ hR hns hdi];exact hI.tmps
 ·intro d hd
  have:x.dst≠some d:=by rw[←hdi];exact hd i (by simp)
  rw[Dv this]
  exact hI.old d fun j hj=>hd j (List.mem_append_left _ hj)
 ·intro j hj hsj
  rcases List.mem_append.1 hj with h1|h1
  ·intro y hy
   obtain⟨u,h2,h3⟩:=hI.pend j h1 hsj y hy
   refine⟨u,fun d hd=> ?_,?_⟩
   ·rw[Dv]
    ·exact h2 d hd
    ·intro he
     obtain⟨oj,yj,hoj,hyj,hcj⟩:=hR.get (hR.slt j (by rw[hI.sched];exact List.mem_append_left _ h1))
     have hyy:yj=y:=by rw[hy]at hyj;exact(Option.some.inj hyj).symm
     subst hyy
     have h4:fF ops j=some d:=by rw[qo hoj,←hcj.dst];exact hd
     rw[←hdi]at he
     exact hne j h1 (hR.uniq h4 he)
   ·rw[Tu j h1,VI j h1]
    cases hw:dI (EI ops (eY ops.toList []) j T T0) y.guard with
    |false=>rw[hw]at h3;exact h3
    |true=>
     rw[hw]at h3
     rcases h3 with⟨h5,h6⟩|⟨h5,obj,mk,h6,h7,h8,h9,h10⟩
     ·exact .inl ⟨h5,VE hsub h6⟩
     ·exact .inr ⟨h5,obj,mk,h6,h7,hsub _ _ h8,h9,Nat.lt_of_lt_of_le h10.1 hnext,h10.2⟩
  ·simp at h1;subst h1;exact hp
 ·intro j hj k hk hsj hsk hmj hmk' he
  rcases List.mem_append.1 hj with h1|h1 <;> rcases List.mem_append.1 hk with h2|h2
  ·rw[VI j h1,VI k h2]at he
   exact hI.inj j h1 k h2 hsj hsk (hmk j h1 hmj) (hmk k h2 hmk') he
  ·simp at h2;subst h2
   rw[VI j h1,ZV hmk']at he
   have:=hlt j h1 hsj (hmk j h1 hmj)
   omega
  ·simp at h1;subst h1
   rw[VI k h2,ZV hmj]at he
   have:=hlt k h2 hsk (hmk k h2 hmk')
   omega
  ·simp at h1 h2;rw[h1,h2]
theorem qbT (hR:dM P n ops xs σ){i:Nat}{r:List Nat}(hI:Inv P C n ops xs σ K T0 R0 H0 w0 pre (i::r) S xh T H R a w)(hna:rU xs i=false):
 ∃T1 H1 qai,Inv P C n ops xs σ K T0 R0 H0 w0 (pre++[i]) r S qai T1 H1 R a w:=by
 obtain⟨o,x,ho,hx,hco⟩:=hR.get (hR.slt i (by rw[hI.sched];simp))
 have KY:acts x=false:=by unfold rU at hna;rw[hx]at hna;exact hna
 have hrun:=hI.run
 simp only[Mj,hx,Gw,KY,Bool.false_eq_true,if_false,bM]at hrun
 have hag:=KW (T:=T) (T0:=T0) hR hI.sched hI.old ho
 have hdi:fF ops i=x.dst:=by rw[qo ho,hco.dst]
 have Tu: ∀v,EI ops (eY ops.toList []) i (T.put x.dst v) T0=EI ops (eY ops.toList []) i T T0:=fun v=>Oa hR (R6 hR.back ho) hdi v
 have hput: ∀v d,x.dst=some d→T.put x.dst v d=v:=fun v d hd=>by rw[hd];exact put_eq
 have VJ: ∀(v:Value) (H1:aa) (EN:Nat→Nat),(match dI T x.guard with
  |false=>v=undef
  |true=>(x.op.kind = .rd∧bL P T H1 x.op=some v)∨(x.op.kind = .al∧∃obj mk,jq T x.op=some (obj,mk)∧v=mk (EN i)∧H1.get (EN i)=some obj∧¬ R.dom (EN i)∧EN i<H1.next∧H0.next≤EN i)) →
  qah P ops xs H0.next (T.put x.dst v) T0 H1 R EN i:=by
  intro v H1 EN h y hy
  rw[hx]at hy
  injection hy with hy
  subst hy
  refine⟨v,hput v,?_⟩
  rw[Tu v,←hag.guard hco,←hag.bL hco,←hag.jq hco]
  exact h
 cases hw:dI T x.guard with
 |false=>
  rw[hw]at hrun
  refine⟨T.put x.dst undef,H,xh,KX hR hI ho hx hco hna (fun _ _ h=>h) (Nat.le_refl _) hI.Eu hI.ext hrun (fun _ _=>rfl) ?_ (VJ _ _ _ (by rw[hw]))⟩
  rintro⟨y,h1,h2,h3⟩
  rw[hx]at h1;injection h1 with h1;subst h1
  rw[Tu,←hag.guard hco,hw]at h3;cases h3
 |true=>
  rw[hw]at hrun
  unfold NQ at hrun
  cases hk:x.op.kind with
  |rd=>
   rw[hk]at hrun
   obtain⟨v,h1,h2⟩:=hrun
   refine⟨T.put x.dst v,H,xh,KX hR hI ho hx hco hna (fun _ _ h=>h) (Nat.le_refl _) hI.Eu hI.ext h2 (fun _ _=>rfl) ?_ (VJ _ _ _ (by rw[hw];exact .inl ⟨hk,h1⟩))⟩
   rintro⟨y,h3,h4,_⟩
   rw[hx]at h3;injection h3 with h3;subst h3
   rw[hk]at h4;cases h4
  |al=>
   rw[hk]at hrun
   obtain⟨⟨obj,mk⟩,h1,h2⟩:=hrun
   have hsub:H.sub (H.alloc obj):=by
    intro b q hb
    have hlt:b<H.next:=by
     rcases Nat.lt_or_ge b H.next with h|h
     ·exact h
     ·rw[hI.Eu.wf b h]at hb;cases hb
    rw[fG H obj hlt];exact hb
   have hnd: ¬ R.dom H.next:=fun h=>Nat.lt_irrefl _ (hI.Eu.lt _ h)
   have xk:Ext R0 H0 w0 R (H.alloc obj) w:=by
    refine hI.ext.trans ⟨R.le_refl,Nat.le_succ _,fun b hb=>.inl hb,fun b hb _=>fG H obj hb,fun b cs hg hb=>by rw[fG H obj hb];exact hg,fun _ _ _=>rfl,fun b hb hl=>.inr ⟨b,hb,?_,rfl⟩,Nat.le_refl _,rfl,rfl,rfl⟩
    unfold bI at hl ⊢
    rw[fG H obj (hI.Eu.lt b hb)]at hl
    exact hl
   have hni:=pO hR hI.sched
   refine⟨T.put x.dst (mk H.next),H.alloc obj,fun j=>if j=i then H.next else xh j,KX hR hI ho hx hco hna hsub (Nat.le_succ _) (hI.Eu.AA obj) xk h2 (fun j hj=> ?_) (fun _=>by simp)
    (VJ _ _ _ (by rw[hw];exact .inr ⟨hk,obj,mk,h1,by simp,by simp[iC],by simpa using hnd,by simp[aa.alloc],by simpa using hI.ext.next⟩))⟩
   rw[if_neg (fun e:j=i=>hni (e▸hj))]
  |ac=>unfold acts at KY;rw[hk]at KY;simp at KY
  |ca=>unfold acts at KY;rw[hk]at KY;simp at KY
theorem advance (hR:dM P n ops xs σ): ∀(rest pre:List Nat) (xh:Nat→Nat) (T:Env) (H:aa),Inv P C n ops xs σ K T0 R0 H0 w0 pre rest S xh T H R a w →
 ∃pre' rest' EN T' H',Inv P C n ops xs σ K T0 R0 H0 w0 pre' rest' S EN T' H' R a w∧∀i r,rest'=i::r→rU xs i=true
 |[],pre,xh,T,H,hI=>⟨pre,[],xh,T,H,hI,by simp⟩
 |i::r,pre,xh,T,H,hI=>by
  cases ha:rU xs i with
  |true=>exact⟨pre,i::r,xh,T,H,hI,fun j q h=>by injection h with h1 _;subst h1;exact ha⟩
  |false=>
   obtain⟨T1,H1,qai,h1⟩:=qbT hR hI ha
   exact advance hR r (pre++[i]) qai T1 H1 h1
end
end
end Go.Proofs.YtpbbjfighohokaaGreatI
