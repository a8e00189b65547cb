/- One operation, and rows of them. / What an operation hangs on: its operands, and of the heap what is there. / A region that draws its order: one order shows them all. / A region that draws its order: one order shows them all (the invariant, its steps). / A region that draws its order: one order show -/
import Derived.Test.YtofpmkhcbijilaaGreatDoorIdealK
import Derived.Scope
namespace Go.Proofs.YtofpmkhcbijilaaGreatDoorI
open Go
set_option linter.unusedSimpArgs false
set_option linter.unusedVariables false
section
def jS (K:Value→aa→Prop)(R:Ren)(H:aa)(w:World):Ending→World→Prop:=
 fun e w'=> ∃r r' R' H',e = .returned r'∧K r H'∧VR R' r r'∧gT R' H' w'∧Ext R H w R' H' w'
def mK (P:Program)(f:FuncId)(args:List Value)(H:aa)(K:Value→aa→Prop):Prop:=
 ((∀(as:Array Value) w,(callFunc f as).run P w = .ok (.enter f as) w) ∧
   ∀R w (args':Array Value),gT R H w→eT R args args'.toList→Calls P f args' w (jS K R H w)) ∨
 ((∀fn,P.funcs[f]? =some fn→fn.body.isNone=true)∧∀R w (args':Array Value),gT R H w→eT R args args'.toList →
   ∃r' w',(callFunc f args').run P w = .ok (.value r') w'∧jS K R H w (.returned r') w')
def jh (P:Program)(C:bu):Prop:=∀f args H K,C f args H K→mK P f args H K
theorem Q9 {P:Program}{o:Oper}{io:bO}(hop: ∀c,o.op ≠ .call c)(qeY: ∀t x,o.op ≠ .range t x)(qeZ: ∀t s,o.op ≠ .next t s)(qe0: ∀t,o.op ≠ .entry t)(hc:iR P o=some io)(hk:io.kind = .ca):False:=by
 unfold iR at hc
 split at hc
 ·cases hc
 obtain⟨dst,op,ty,pos,after,g⟩:=o
 simp only at hc hop qeY qeZ qe0
 cases op with
 |call c=>exact absurd rfl (hop c)
 |range t x=>exact absurd rfl (qeY t x)
 |next t s=>exact absurd rfl (qeZ t s)
 |entry t=>exact absurd rfl (qe0 t)
 |mapUpdate t m k x=>simp only[]at hc;split at hc <;> simp at hc;subst hc;cases hk
 |insert t m k x=>simp only[]at hc;split at hc <;> simp at hc;subst hc;cases hk
 |store t x y=>simp only[]at hc;cases hsz:bz P t <;> simp[hsz]at hc;subst hc;cases hk
 |select cs b=>simp at hc
 |move x=>simp at hc;subst hc;cases hk
 |assign x=>simp at hc;subst hc;cases hk
 |pick c x y=>simp at hc;subst hc;cases hk
 |alloc t=>cases hz:gz P t <;> simp[hz]at hc;subst hc;cases hk
 |box t x=>simp at hc;subst hc;cases hk
 |build t parts=>
  simp only[]at hc
  split at hc
  ·rename_i z fs hz hu
   cases hp:mH P fs.toList with
   |none=>simp[hp]at hc
   |some pl=>
    cases hq:fH (pl[·]?) parts.toList with
    |none=>simp[hp,hq]at hc
    |some ps=>simp[hp,hq]at hc;subst hc;cases hk
  ·rename_i z k e hz hu
   cases hsz:bz P e with
   |none=>simp[hsz]at hc
   |some s=>
    cases hq:fH (fun i=>some (i*s,s)) parts.toList with
    |none=>simp[hsz,hq]at hc
    |some ps=>simp[hsz,hq]at hc;subst hc;cases hk
  ·cases hc
 |buildSlice t len parts=>
  simp only[]at hc
  split at hc
  ·split at hc
   ·split at hc
    ·rename_i e hu _ _ s z hs hz hcond
     cases hq:fH (fun i=>some (i*s,s)) parts.toList with
     |none=>simp[hq]at hc
     |some ps=>simp[hq]at hc;subst hc;cases hk
    ·cases hc
   ·cases hc
  ·cases hc
 |load t x=>simp only[]at hc;split at hc <;> simp at hc <;> subst hc <;> cases hk
 |nilCheck x=>simp at hc;subst hc;cases hk
 |binOp Zh t x y yt=>
  simp only[]at hc
  cases Zh <;> simp only[Option.some.injEq]at hc <;> subst hc <;> first
   |cases hk
   |(unfold uT at hk;split at hk <;> (try split at hk) <;> cases hk)
 |convert s d x=>
  simp only[]at hc
  split at hc
  ·split at hc <;> simp at hc;subst hc;cases hk
  ·split at hc <;> simp at hc;subst hc;cases hk
  ·simp at hc;subst hc;cases hk
 |makeInterface t x=>simp only[]at hc;split at hc <;> simp at hc;subst hc;cases hk
 |makeFunc fn first captured=>cases fn <;> simp at hc <;> subst hc <;> cases hk
 |makeMap t r=>cases r <;> simp at hc <;> subst hc <;> cases hk
 |makeSlice t l c=>
  simp only[]at hc
  split at hc
  ·split at hc
   ·split at hc
    ·injection hc with hc;subst hc;cases hk
    ·cases hc
   ·cases hc
  ·cases hc
 |slice t x lo hi mx=>
  simp only[]at hc
  split at hc
  ·rename_i e hu
   cases hsz:bz P e with
   |none=>simp[hsz]at hc
   |some s=>simp only[hsz,Option.bind_some]at hc;split at hc <;> simp at hc;subst hc;cases hk
  ·rename_i k e hu
   cases hsz:bz P e with
   |none=>simp[hsz]at hc
   |some s=>simp only[hsz,Option.bind_some]at hc;split at hc <;> simp at hc;subst hc;cases hk
  ·simp at hc;subst hc;cases hk
  ·cases hc
 |fieldAddr t x i=>
  simp only[]at hc
  split at hc
  ·split at hc
   ·rename_i f hf
    cases hsz:bz P f.type with
    |none=>simp[hsz]at hc
    |some s=>simp only[hsz,Option.bind_some]at hc;split at hc <;> simp at hc;subst hc;cases hk
   ·cases hc
  ·cases hc
 |field t x i=>
  simp only[]at hc
  split at hc
  ·split at hc
   ·split at hc <;> simp at hc <;> subst hc <;> cases hk
   ·cases hc
  ·cases hc
 |indexAddr t x i=>
  simp only[]at hc
  split at hc
  ·rename_i e hu;cases hsz:bz P e <;> simp[hsz]at hc;subst hc;cases hk
  ·rename_i k e hu
   split at hc
   ·cases hsz:bz P e <;> simp[hsz]at hc;subst hc;cases hk
   ·cases hc
  ·cases hc
 |index t x i=>
  simp only[]at hc
  split at hc
  ·simp at hc;subst hc;cases hk
  ·split at hc <;> simp at hc <;> subst hc <;> cases hk
  ·cases hc
 |lookup t m k ok=>
  simp only[]at hc
  split at hc
  ·rename_i kt e hu;cases hz:gz P e <;> simp[hz]at hc;subst hc;cases hk
  ·cases hc
 |typeAssert x xt t ok=>
  simp only[]at hc
  split at hc
  ·cases hc
  ·cases hz:gz P t <;> simp[hz]at hc;subst hc;cases hk
  ·cases hc
 |extract x i=>simp at hc;subst hc;cases hk
 |_=>simp at hc;subst hc;cases hk
section
variable {P:Program} {C:bu} {n:Nat} {R:Ren} {H:aa} {w:World} {T:Env} {a:Act}
theorem Wh {dst:Option Nat}{ty t:TypeId}{x:Operand}{pos:_}{after:_}{g:_}{kt e:TypeId}{K:Value→aa→Prop}{next:Act→World→Prop}{Q:Exit→Act→World→Prop}(hS:gT R H w)(hT:iC n R T a.tmps)
 (hok:mG (Op.range t x).operands.toList=true) (hu:P.underlying t=some (.map kt e)) (h:uR H K (ev T x))
 (hn: ∀v v' R' H' w',K v H'→VR R' v v'→gT R' H' w'→Ext R H w R' H' w'→next (a.put dst v') w'):Oper.upon P ⟨dst,.range t x,ty,pos,after,g⟩ a next Q ((execOp a.eval ⟨dst,.range t x,ty,pos,after,g⟩).run P w):=by
 have hv:=bf hT (aG hok (x:=x) (by simp[Op.operands]))
 have hnd: ¬ R.dom H.next:=fun hd=>Nat.lt_irrefl _ (hS.lt _ hd)
 have fin: ∀(m m':Option Nat) (cl:Nat),NU R m m'→K (.pointer (some ⟨H.next,0,none⟩)) (H.alloc (.iter m cl [] cl)) →
  (execOp a.eval ⟨dst,.range t x,ty,pos,after,g⟩).run P w = .ok (.value (.pointer (some ⟨w.heap.size,0,none⟩))) {w with heap:=w.heap.push (.mapIter m' cl #[] cl)} →
  Oper.upon P ⟨dst,.range t x,ty,pos,after,g⟩ a next Q ((execOp a.eval ⟨dst,.range t x,ty,pos,after,g⟩).run P w):=by
  intro m m' cl hm hK hrun
  rw[hrun]
  have hle:R.le (R.add H.next w.heap.size 0 0):=Ren.KG hnd
  have hone:V9 w {w with heap:=w.heap.push (.mapIter m' cl #[] cl)}:=uV w _ _
  refine hn _ _ _ _ _ hK ?_ (Ka (size:=0) (len:=0) (hS.yG (.iter m cl [] cl)) (Nat.lt_succ_self _) hnd (mh H _) hone (x:=.mapIter m' cl #[] cl) (by simp) ⟨by simp[Ren.add],rfl,rfl,rfl,hm.mono hle⟩)
   (Pj hS hle (fun b=>Iff.rfl) (by simp[Ren.add]) hone)
  have:=VR.ptr (R:=R.add H.next w.heap.size 0 0) H.next 0 (.inr rfl)
  simpa[Ren.add]using this
 unfold uR at h
 split at h
 ·rename_i hx
  rw[hx]at hv
  have hx':a.eval x = .map none:=hv.map_nil
  refine fin none none 0 trivial h ?_
  simp only[execOp,Instr.range,Sem.run_bind,aH hu,hx',Result.andThen_ok,Sem.run_pure,run_newObj]
 ·rename_i r hx
  rw[hx]at hv
  split at h
  ·rename_i es cl hg
   obtain⟨hx',hd⟩:=hv.map_some
   have ho:=hS.obj r hd
   rw[hg]at ho
   obtain⟨es',hw,_⟩:=ho
   refine fin (some r) (some (R.blk r)) cl ⟨hd,rfl⟩ h ?_
   simp only[execOp,Instr.range,Sem.run_bind,aH hu,hx',Result.andThen_ok,iO P hw,Sem.run_pure,run_newObj]
  ·exact h.elim
 ·exact h.elim
theorem Ra (P:Program)(k:Nat)(hk:0<k)(w:World): ∃i d,i<k∧(choose (.mapNext k)).run P w = .ok i {w with drawn:=d}:=by
 by_cases h:k≤1
 ·refine⟨0,w.drawn,hk,?_⟩
  simp only[choose,Sem.run,Question.forced,h,decide_true,if_true]
 ·refine⟨(w.tape w.drawn (.mapNext k)) % k,w.drawn+1,Nat.mod_lt _ hk,?_⟩
  simp only[choose,Sem.run,Question.forced,h,decide_false,Bool.false_eq_true,if_false,Question.cut]
theorem dB.mem {R:Ren}: ∀{l l':List MapEntry},dB R l l'→∀e' ∈ l',∃e ∈ l,M9 R e e'
 |_,_,.nil,_,h=>by simp at h
 |_,_,.cons h1 h2,e',h=>by
  rcases List.mem_cons.1 h with rfl|h
  ·exact⟨_,List.mem_cons_self,h1⟩
  ·obtain⟨e,h3,h4⟩:=dB.mem h2 e' h
   exact⟨e,List.mem_cons_of_mem _ h3,h4⟩
theorem dB.mem' {R:Ren}: ∀{l l':List MapEntry},dB R l l'→∀e ∈ l,∃e' ∈ l',M9 R e e'
 |_,_,.nil,_,h=>by simp at h
 |_,_,.cons h1 h2,e,h=>by
  rcases List.mem_cons.1 h with rfl|h
  ·exact⟨_,List.mem_cons_self,h1⟩
  ·obtain⟨e',h3,h4⟩:=dB.mem' h2 e h
   exact⟨e',List.mem_cons_of_mem _ h3,h4⟩
theorem xk (P:Program){w:World}{r s l:Nat}{m:Option Nat}{sn:Array Nat}(h:w.heap[r]? =some (.mapIter m s sn l)):(getObj r).run P w = .ok (.mapIter m s sn l) w:=by
 simp[getObj,Sem.run,h]
theorem Zm (P:Program){w:World}{b m since last clock:Nat}{seen:Array Nat}{es:Array MapEntry}{ty:TypeId}(h1:w.heap[b]? =some (.mapIter (some m) since seen last))(h2:w.heap[m]? =some (.map es clock))
 (hok:(!seen.isEmpty && !es.isEmpty&&es.all (·.born≥last))=false):
 (∃d,(∀e ∈ es.toList,e.born ∉ seen.toList→since≤e.born)∧(Instr.next (.pointer (some ⟨b,0,none⟩)) false ty).run P w = .ok (.tuple #[.bool false]) {w with drawn:=d}) ∨
 (∃d,∃e ∈ es.toList,e.born ∉ seen.toList∧(Instr.next (.pointer (some ⟨b,0,none⟩)) false ty).run P w = .ok (.tuple #[.bool true,e.key,e.val]) {w with heap:=w.heap.setIfInBounds b (.mapIter (some m) since (seen.push e.born) clock),drawn:=d}):=by
 generalize hleft:(es.filter fun e=> !seen.contains e.born)=left
 generalize hold:(left.filter (·.born<since))=old
 generalize hnew:(left.filter (·.born≥since))=new
 generalize Ve:((if old.isEmpty then #[none]else #[])++(old++new).map some:Array (Option MapEntry))=Rb
 have hpos:0<Rb.size:=by
  rw[←Ve]
  by_cases h:old.isEmpty=true
  ·rw[if_pos h];simp;omega
  ·rw[if_neg h]
   have:0<old.size:=by
    rcases Nat.eq_zero_or_pos old.size with h0|h0
    ·exact absurd (by simp[Array.isEmpty,h0]) h
    ·exact h0
   simp;omega
 obtain⟨i,d,hi,hch⟩:=Ra P Rb.size hpos w
 have hrun: ∀v w',(match Rb[i]? with
  |some (some e)=>(do setObj b (.mapIter (some m) since (seen.push e.born) clock);pure (.tuple #[.bool true,e.key,e.val]):Sem Value)
  |some none=>pure (.tuple #[.bool false])
  |none=>stuck "Next: no such candidate").run P {w with drawn:=d} = .ok v w'→(Instr.next (.pointer (some ⟨b,0,none⟩)) false ty).run P w = .ok v w':=by
  intro v w' hh
  unfold Instr.next
  simp only[Sem.run_bind,xk P h1,Result.andThen_ok,iO P h2,hok,Bool.false_eq_true,if_false,hleft,hold,hnew,Ve,hch,pure_bind]
  exact hh
 have hc:Rb[i]? =some Rb[i]:=by simp[hi]
 cases hci:Rb[i]with
 |none=>
  left
  refine⟨d,?_,hrun _ _ (by rw[hc,hci];rfl)⟩
  have hmem:(none:Option MapEntry) ∈ Rb:=by rw[←hci];exact Array.getElem_mem hi
  have hemp:old.isEmpty=true:=by
   cases hb:old.isEmpty with
   |true=>rfl
   |false=>rw[←Ve,hb]at hmem;simp at hmem
  intro e he hns
  refine Classical.byContradiction fun hlt=> ?_
  have:e ∈ old:=by
   rw[←hold,←hleft]
   simp only[Array.mem_filter]
   refine⟨⟨by simpa using he,by simpa using hns⟩,by simp;omega⟩
  rw[Array.isEmpty_iff]at hemp
  rw[hemp]at this
  simp at this
 |some e=>
  right
  have hmem:some e ∈ Rb:=by rw[←hci];exact Array.getElem_mem hi
  have hm2:e ∈ left:=by
   rw[←Ve]at hmem
   have:e ∈ old∨e ∈ new:=by
    cases hb:old.isEmpty <;> rw[hb]at hmem <;> simpa using hmem
   rcases this with h|h
   ·rw[←hold]at h;exact(Array.mem_filter.1 h).1
   ·rw[←hnew]at h;exact(Array.mem_filter.1 h).1
  rw[←hleft]at hm2
  obtain⟨hm3,hm4⟩:=Array.mem_filter.1 hm2
  refine⟨d,e,by simpa using hm3,by simpa using hm4,hrun _ _ ?_⟩
  rw[hc,hci]
  simp only[Sem.run_bind,setObj,Sem.run,h1,Result.andThen_ok]
  rfl
theorem Zn {dst:Option Nat}{ty:TypeId}{x:Operand}{pos:_}{after:_}{g:_}{K:Value→aa→Prop}{next:Act→World→Prop}{Q:Exit→Act→World→Prop}(hS:gT R H w)(hT:iC n R T a.tmps)
 (hok:mG (Op.next x false).operands.toList=true) (h:kG H K (ev T x))
 (hn: ∀v v' R' H' w',K v H'→VR R' v v'→gT R' H' w'→Ext R H w R' H' w'→next (a.put dst v') w'):Oper.upon P ⟨dst,.next x false,ty,pos,after,g⟩ a next Q ((execOp a.eval ⟨dst,.next x false,ty,pos,after,g⟩).run P w):=by
 have hv:=bf hT (aG hok (x:=x) (by simp[Op.operands]))
 have fin: ∀v w',(Instr.next (a.eval x) false ty).run P w = .ok v w'→next (a.put dst v) w'→Oper.upon P ⟨dst,.next x false,ty,pos,after,g⟩ a next Q ((execOp a.eval ⟨dst,.next x false,ty,pos,after,g⟩).run P w):=by
  intro v w' h1 h2
  have:(execOp a.eval ⟨dst,.next x false,ty,pos,after,g⟩).run P w = .ok (.value v) w':=by
   simp only[execOp,Sem.run_bind,h1,Result.andThen_ok]
   rfl
  rw[this]
  exact h2
 unfold kG at h
 split at h
 ·rename_i r hx
  rw[hx]at hv
  obtain⟨hx',hd⟩:=hv.o5
  have ho:=hS.obj r hd
  split at h
  ·rename_i s sn l hg
   rw[hg]at ho
   obtain⟨h0,m',hw,hm⟩:=ho
   have hm':m'=none:=by cases m' with
    |none=>rfl
    |some j=>exact hm.elim
   subst hm'
   rw[h0,Nat.add_zero]at hx'
   refine fin (.tuple #[.bool false]) w ?_ (hn _ _ R H w h (.tuple _ _ (.cons (.bool _) .nil)) hS (Ext.refl _ _ _))
   rw[hx']
   unfold Instr.next
   simp only[Sem.run_bind,xk P hw,Result.andThen_ok]
   rfl
  ·rename_i m since seen last hg
   rw[hg]at ho
   obtain⟨h0,m',hw,hm⟩:=ho
   obtain⟨j,rfl⟩: ∃j,m'=some j:=by cases m' with
    |none=>exact hm.elim
    |some j=>exact⟨j,rfl⟩
   obtain⟨hmd,rfl⟩:=hm
   rw[h0,Nat.add_zero]at hx'
   split at h
   ·rename_i es clock hgm
    have hom:=hS.obj m hmd
    rw[hgm]at hom
    obtain⟨es',hwm,hes⟩:=hom
    obtain⟨c1,c2,c3⟩:=h
    have hcond:(!seen.toArray.isEmpty && !es'.isEmpty&&es'.all (·.born≥last))=false:=by
     rcases c1 with rfl|rfl|⟨e,he,hlt⟩
     ·rfl
     ·have hl:=hes.length
      have:es' = #[]:=by
       apply Array.eq_empty_of_size_eq_zero
       simpa using hl.symm
      rw[this];simp
     ·obtain⟨e',he',hr⟩:=hes.mem' e he
      have:es'.all (fun e=>decide (e.born≥last))=false:=by
       rw[Bool.eq_false_iff]
       intro hall
       rw[Array.all_eq_true']at hall
       have:=hall e' (by simpa using he')
       simp only[decide_eq_true_eq]at this
       have:=hr.born
       omega
      rw[this,Bool.and_false]
    rcases Zm P (ty:=ty) hw hwm hcond with⟨d,q1,q2⟩|⟨d,e',he',hns,q2⟩
    ·refine fin _ _ (by rw[hx'];exact q2) (hn _ _ R H _ (c2 fun e he hn'=> ?_) (.tuple _ _ (.cons (.bool _) .nil)) (hS.drawn d) ((Ext.refl R H {w with drawn:=d}).drawn))
     obtain⟨e',he',hr⟩:=hes.mem' e he
     have:=q1 e' he' (by rw[hr.born];simpa using hn')
     rw[hr.born]at this
     exact this
    ·obtain⟨e,he,hr⟩:=hes.mem e' he'
     have qig:e.born ∉ seen:=by rw[←hr.born];simpa using hns
     have hlive:bL H r:=by unfold bL;rw[hg];trivial
     have qih:WAt w {w with heap:=w.heap.setIfInBounds (R.blk r) (.mapIter (some (R.blk m)) since (seen.toArray.push e'.born) clock),drawn:=d} (R.blk r):=
      ⟨by simp,fun j hj=>by simp[Array.getElem?_setIfInBounds_ne (fun e=>hj e.symm)],rfl,rfl,rfl⟩
     have hlt:R.blk r<w.heap.size:=(Array.getElem?_eq_some_iff.1 hw).1
     obtain⟨s1,s2⟩:=Ph (x:=.iter (some m) since (seen++[e.born]) clock) hS hd hg (Ko hlive) hlive qih ⟨h0,some (R.blk m),by simp[hlt,hr.born],hmd,rfl⟩ (by simp)
     exact fin _ _ (by rw[hx'];exact q2) (hn _ _ R _ _ (c3 e he qig) (.tuple _ _ (.cons (.bool _) (.cons hr.key (.cons hr.val .nil)))) s1 s2)
   ·exact h.elim
  ·exact h.elim
 ·exact h.elim
theorem Oa {s:Nat}: ∀{l l':List MapEntry},dB R l l'→∀e,l.find? (fun e=>e.born == s)=some e→∃e',l'.find? (fun e=>e.born == s)=some e'∧M9 R e e'
 |_,_,.nil,e,h=>by simp at h
 |_,_,.cons (e:=a) (e':=b) h1 h2,e,h=>by
  rw[List.find?_cons]at h ⊢
  rw[h1.born]
  cases hb:a.born == s with
  |true=>rw[hb]at h;injection h with h;subst h;exact⟨b,rfl,h1⟩
  |false=>rw[hb]at h;exact Oa h2 e h
theorem Wi {dst:Option Nat}{ty:TypeId}{x:Operand}{pos:_}{after:_}{g:_}{K:Value→aa→Prop}{next:Act→World→Prop}{Q:Exit→Act→World→Prop}(hS:gT R H w)(hT:iC n R T a.tmps)
 (hok:mG (Op.entry x).operands.toList=true) (h:sS H K (ev T x))
 (hn: ∀v v' R' H' w',K v H'→VR R' v v'→gT R' H' w'→Ext R H w R' H' w'→next (a.put dst v') w'):Oper.upon P ⟨dst,.entry x,ty,pos,after,g⟩ a next Q ((execOp a.eval ⟨dst,.entry x,ty,pos,after,g⟩).run P w):=by
 have hv:=bf hT (aG hok (x:=x) (by simp[Op.operands]))
 unfold sS at h
 split at h
 ·rename_i r hx
  rw[hx]at hv
  obtain⟨hx',hd⟩:=hv.o5
  have ho:=hS.obj r hd
  split at h
  ·rename_i m since seen last hg
   rw[hg]at ho
   obtain⟨h0,m',hw,hm⟩:=ho
   obtain⟨j,rfl⟩: ∃j,m'=some j:=by cases m' with
    |none=>exact hm.elim
    |some j=>exact⟨j,rfl⟩
   obtain⟨hmd,rfl⟩:=hm
   rw[h0,Nat.add_zero]at hx'
   split at h
   ·rename_i es clock hgm
    have hom:=hS.obj m hmd
    rw[hgm]at hom
    obtain⟨es',hwm,hes⟩:=hom
    obtain⟨rfl,pre,s,rfl,e,hf,hK⟩:=h
    obtain⟨e',hf',hr⟩:=Oa hes e hf
    have hf2:es'.find? (fun e=>e.born == s)=some e':=by rw[←hf'];simp
    have hrun:(execOp a.eval ⟨dst,.entry x,ty,pos,after,g⟩).run P w = .ok (.value (.tuple #[e'.key,e'.val])) w:=by
     have:(Instr.entry (a.eval x)).run P w = .ok (.tuple #[e'.key,e'.val]) w:=by
      rw[hx']
      unfold Instr.entry
      have hb:(pre++[s]).toArray.back? =some s:=by simp
      simp only[Sem.run_bind,xk P hw,Result.andThen_ok,hb,iO P hwm,bne_self_eq_false,Bool.false_eq_true,if_false,hf2]
      rfl
     simp only[execOp,Sem.run_bind,this,Result.andThen_ok]
     rfl
    rw[hrun]
    exact hn _ _ R H w hK (.tuple _ _ (.cons hr.key (.cons hr.val .nil))) hS (Ext.refl _ _ _)
   ·exact h.elim
  ·exact h.elim
 ·exact h.elim
theorem Wj {name:String}{t:TypeId}{f:FuncId}(h:(t,f) ∈ QW P name): ∃i m,P.info? t=some i∧i.methods.find? (·.name == name)=some m∧m.path.toList=[] ∧
 ((m.func=some (f,true)∧∃e,P.underlying t=some (.pointer e))∨(m.func=some (f,false)∧∃d,P.underlying t=some d∧∀e,d ≠ .pointer e)):=by
 unfold QW at h
 obtain⟨t',_,h⟩:=List.mem_filterMap.1 h
 split at h
 case h_2=>cases h
 rename_i i hi
 split at h
 case h_2=>cases h
 rename_i m hm
 split at h
 ·rename_i e hp hf hu
  injection h with h;injection h with h1 h2;subst h1;subst h2
  exact⟨i,m,hi,hm,hp,.inl ⟨hf,e,hu⟩⟩
 ·cases h
 ·rename_i d hnd hp hf hu
  injection h with h;injection h with h1 h2;subst h1;subst h2
  exact⟨i,m,hi,hm,hp,.inr ⟨hf,_,hu,fun e he=>hnd e he⟩⟩
 ·cases h
theorem TC {name:String}{t:TypeId}{f:FuncId}(h:(t,f) ∈ QW P name)(v:Value)(k:Nat)(w:World):(method (k+1) t v name).run P w = .ok (f,v) w:=by
 obtain⟨i,m,h1,h2,h3,h4⟩:=Wj h
 simp only[method,Sem.run_bind,run_typeInfo h1,Result.andThen_ok,h2,h3,follow,Sem.run_pure]
 rcases h4 with⟨hf,e,hu⟩|⟨hf,d,hu,hd⟩
 ·simp only[hf,receiverAt,Sem.run_bind,aH hu,Result.andThen_ok,Place.get,Sem.run_pure]
 ·simp only[hf,receiverAt,Sem.run_bind,aH hu,Result.andThen_ok]
  cases d <;> first|exact absurd rfl (hd _)|simp only[Place.get,Sem.run_pure,Result.andThen_ok]
theorem TD {dst:Option Nat}{ty:TypeId}{recv:Operand}{name:String}{args:Array Operand}{nE:Array TypeId}{l:List Operand}{pos:_}{after:_}{g:_}{K:Value→aa→Prop}{next:Act→World→Prop}{Q:Exit→Act→World→Prop}
 (hC:jh P C) (hS:gT R H w) (hT:iC n R T a.tmps) (hok:mG (Op.call ⟨.invoke recv name,args,nE⟩).operands.toList=true) (hl:args.toList=l) (h:jM C T H K (.invoke (QW P name) recv l))
 (hn: ∀v v' R' H' w',K v H'→VR R' v v'→gT R' H' w'→Ext R H w R' H' w'→next (a.put dst v') w'):
 Oper.upon P ⟨dst,.call ⟨.invoke recv name,args,nE⟩,ty,pos,after,g⟩ a next Q ((execOp a.eval ⟨dst,.call ⟨.invoke recv name,args,nE⟩,ty,pos,after,g⟩).run P w):=by
 subst hl
 simp only[jM]at h
 split at h
 case h_2=>exact h.elim
 rename_i t v hv
 split at h
 case h_2=>exact h.elim
 rename_i p hp
 have hpm:=List.mem_of_find?_eq_some hp
 have hpt:p.1=t:=by have:=List.find?_some hp;simpa using this
 obtain⟨t',f⟩:=p
 simp only at hpt h
 subst hpt
 have hrx:=bf hT (aG hok (x:=recv) (by simp[Op.operands,Call.operands]))
 rw[hv]at hrx
 obtain⟨u,hx,hvu⟩:=hrx.Fx
 have hrun:(execOp a.eval ⟨dst,.call ⟨.invoke recv name,args,nE⟩,ty,pos,after,g⟩).run P w=(callFunc f (#[u]++args.map a.eval)).run P w:=by
  have hpr: ∀w,(program).run P w = .ok P w:=fun _=>rfl
  have e0:(#[Value.iface t' u]++Array.map a.eval args)[0]? =some (.iface t' u):=by
   rw[Array.getElem?_append_left (by simp)]
   rfl
  have e1:(#[Value.iface t' u]++Array.map a.eval args).extract 1 (#[Value.iface t' u]++Array.map a.eval args).size=Array.map a.eval args:=by
   apply Array.toList_inj.1
   simp
   exact List.take_of_length_le (by simp)
  show((resolve a.eval ⟨.invoke recv name,args,nE⟩ ty) >>= fun d=>invoke d.target d.args).run P w=_
  simp only[resolve,Sem.run_bind,Sem.run_pure,Result.andThen_ok,hx,invoke,e0,e1,callMethod,hpr]
  have hm:=TC hpm u (P.types.size+99) w
  rw[show P.types.size+99+1=P.types.size+Made.depth from rfl]at hm
  rw[hm]
  rfl
 have hvs:eT R (v::args.toList.map (ev T)) (#[u]++args.map a.eval).toList:=by
  rw[Array.toList_append,Array.toList_map]
  exact .cons hvu (I7 hT (by unfold mG;exact List.all_eq_true.2 fun x hx=>aG hok (by simp[Op.operands,Call.operands];exact .inr (by simpa using hx))))
 rcases hC f _ H K h with⟨h1,h2⟩|⟨_,h2⟩
 ·rw[hrun,h1]
  refine(h2 R w _ hS hvs).mono fun e w'' he=> ?_
  obtain⟨r,r',R',H',rfl,k1,k2,k3,k4⟩:=he
  exact hn r r' R' H' w'' k1 k2 k3 k4
 ·obtain⟨v',w',h3,r,r',R',H',he,k1,k2,k3,k4⟩:=h2 R w _ hS hvs
  injection he with he
  subst he
  rw[hrun,h3]
  exact hn r _ R' H' w' k1 k2 k3 k4
theorem TE {o:Oper}{io:bO}{K:Value→aa→Prop}{next:Act→World→Prop}{Q:Exit→Act→World→Prop}(hC:jh P C)(hS:gT R H w)(hT:iC n R T a.tmps)
 (hc:sU P o=some io) (h:Dq P C T H io K) (hn: ∀v v' R' H' w',K v H'→VR R' v v'→gT R' H' w'→Ext R H w R' H' w'→next (a.put o.dst v') w'):o.wp P a w next Q:=by
 unfold Oper.wp
 unfold Dq at h
 split at h
 ·rename_i hk
  obtain⟨v,h1,h2⟩:=h
  obtain⟨v',h3,h4⟩:=Zi hS hT hc hk h1
  rw[h3]
  exact hn v v' R H w h2 h4 hS (Ext.refl _ _ _)
 ·obtain⟨⟨obj,mk⟩,h1,h2⟩:=h
  have hnd: ¬ R.dom H.next:=fun hd=>Nat.lt_irrefl _ (hS.lt _ hd)
  obtain⟨v',w',R',hm⟩:=Zk (hS.yG obj) hT hc h1 (Nat.lt_succ_self _) hnd (mh H obj)
  rw[hm.run]
  exact hn _ v' R' _ w' h2 hm.val hm.zU (Pj hS hm.le hm.dom hm.blk hm.one)
 ·obtain⟨⟨v,H'⟩,h1,h2⟩:=h
  obtain⟨v',w',R',h3,h4,h5,h6⟩:=qdy hS hT hc h1
  rcases h3 with h3|⟨h3,rfl⟩
  ·rw[h3];exact hn v v' R' H' w' h2 h4 h5 h6
  ·rw[h3];exact hn v undef R' H' w' h2 h4 h5 h6
 ·rename_i hk
  have hcI:=tZ hc
  clear hc
  rcases hcI with hc|⟨-,rfl⟩
  case inr=>
   obtain⟨dst,op,ty,pos,after,g⟩:=o
   unfold zS at h hk
   split at hk
   ·cases hk
   rename_i Q8
   rw[if_neg Q8]at h
   have hok:mG op.operands.toList=true:=by cases hq:mG op.operands.toList with|true=>rfl|false=>exact absurd hq Q8
   clear Q8
   simp only at h hk hok hn
   split at hk
   case h_2=>cases hk
   rename_i c
   obtain⟨callee,args,nE⟩:=c
   simp only at h hk
   split at hk
   ·(repeat' split at hk) <;> cases hk
   ·(repeat' split at hk) <;> cases hk
   ·exact TD hC hS hT hok rfl h hn
   ·cases hk
  have hc0:=hc
  unfold iR at hc
  split at hc
  ·cases hc
  rename_i hok
  have hok:mG o.op.operands.toList=true:=by cases hq:mG o.op.operands.toList with|true=>rfl|false=>exact absurd hq hok
  obtain⟨dst,op,ty,pos,after,g⟩:=o
  simp only at hc hok hn
  have fin: ∀f (as:List Value) (as':Array Value),C f as H K→eT R as as'.toList→(execOp a.eval ⟨dst,op,ty,pos,after,g⟩).run P w=(callFunc f as').run P w →
   (⟨dst,op,ty,pos,after,g⟩:Oper).upon P a next Q ((execOp a.eval ⟨dst,op,ty,pos,after,g⟩).run P w):=by
   intro f as as' hcf hvs hrun
   rcases hC f as H K hcf with⟨h1,h2⟩|⟨_,h2⟩
   ·rw[hrun,h1]
    refine(h2 R w as' hS hvs).mono fun e w'' he=> ?_
    obtain⟨r,r',R',H',rfl,k1,k2,k3,k4⟩:=he
    exact hn r r' R' H' w'' k1 k2 k3 k4
   ·obtain⟨v',w',h3,r,r',R',H',he,k1,k2,k3,k4⟩:=h2 R w as' hS hvs
    injection he with he
    subst he
    rw[hrun,h3]
    exact hn r _ R' H' w' k1 k2 k3 k4
  cases op with
  |call c=>
   obtain⟨callee,args,nE⟩:=c
   simp only[]at hc
   split at hc
   ·rename_i f _
    injection hc with hc;subst hc
    simp only[jM]at h
    refine fin f _ (args.map a.eval) h ?_ ?_
    ·rw[Array.toList_map]
     exact I7 hT (by unfold mG;exact List.all_eq_true.2 fun x hx=>aG hok (by simp[Op.operands,Call.operands];exact .inr (by simpa using hx)))
    ·simp[execOp,resolve,Act.eval,Deferred.ofValue,invoke]
   ·rename_i x hnf _
    injection hc with hc;subst hc
    simp only[jM]at h
    split at h
    ·rename_i f first captured he
     have hrx:=bf hT (aG hok (x:=x) (by simp[Op.operands,Call.operands]))
     rw[he]at hrx
     obtain⟨b',c',hx,h1,h2⟩:=hrx.Q0
     refine fin f _ (b'++args.map a.eval++c') h ?_ ?_
     ·rw[Array.toList_append,Array.toList_append,Array.toList_map]
      exact eT.append h2 (eT.append (I7 hT (by unfold mG;exact List.all_eq_true.2 fun y hy=>aG hok (by simp[Op.operands,Call.operands];exact .inr (by simpa using hy)))) h1)
     ·simp[execOp,resolve,hx,Deferred.ofValue,invoke]
    ·exact h.elim
   ·exfalso
    unfold jd at hc
    have bad: ∀{x:bO},(x=io)→x.kind ≠ .ca→False:=fun e hne=>hne (e▸hk)
    split at hc
    ·split at hc <;> first|(injection hc with hc;exact bad hc (by simp[bO.kind]))|(split at hc <;> first|(injection hc with hc;exact bad hc (by simp[bO.kind]))|cases hc)
    ·split at hc <;> first|(injection hc with hc;exact bad hc (by simp[bO.kind]))|cases hc
    ·split at hc
     ·split at hc <;> first|cases hc|(split at hc <;> first|(injection hc with hc;exact bad hc (by simp[bO.kind]))|cases hc)
     ·cases hc
    ·split at hc
     ·rename_i e _ _ _;cases hq:bz P e <;> simp[hq]at hc;exact bad hc (by simp[bO.kind])
     ·cases hc
    ·split at hc
     ·rename_i e _
      cases hq:gz P e with
      |none=>simp[hq]at hc
      |some z=>simp only[hq,Option.bind_some]at hc;split at hc <;> simp at hc;exact bad hc (by simp[bO.kind])
     ·cases hc
    ·split at hc <;> first|(injection hc with hc;exact bad hc (by simp[bO.kind]))|cases hc
    all_goals first|(injection hc with hc;exact bad hc (by simp[bO.kind]))|cases hc
   ·cases hc
  |range t x=>
   simp only[]at hc
   split at hc
   ·rename_i kt e hu
    injection hc with hc;subst hc
    exact Wh hS hT hok hu h hn
   ·cases hc
  |next x s=>
   cases s with
   |true=>simp only[]at hc;cases hc
   |false=>
    simp only[]at hc
    injection hc with hc;subst hc
    exact Zn hS hT hok h hn
  |entry x=>
   simp only[Option.some.injEq]at hc
   subst hc
   exact Wi hS hT hok h hn
  |_=>exact(Q9 (by simp) (by simp) (by simp) (by simp) hc0 hk).elim
theorem Aq {ops:Array Oper}{o:Oper}{g:Option (Nat×Bool)}(hT:iC n R T a.tmps)(hg:nM ops o.guard=some g)(hd: ∀d b,g=some (d,b)→d<n):
 Region.wanted o (yielded ops a.tmps)=bV T g:=by
 unfold Region.wanted
 cases hog:o.guard with
 |none=>
  rw[hog]at hg
  simp only[nM,Option.some.injEq]at hg
  subst hg
  rfl
 |some jw=>
  obtain⟨j,want⟩:=jw
  rw[hog]at hg
  simp only[nM]at hg
  cases hj:(ops[j]?).bind (·.dst)with
  |none=>rw[hj]at hg;simp at hg
  |some d=>
   rw[hj]at hg
   simp only[Option.some.injEq]at hg
   subst hg
   have hdn:=hd d want rfl
   have hr:=hT.get d
   have hlt:d<a.tmps.size:=by rw[hT.size];exact hdn
   have ht:a.tmps[d]? =some a.tmps[d]:=by simp[hlt]
   have hr':VR R (T d) a.tmps[d]:=by simpa[hlt]using hr
   unfold yielded bV
   simp only[hj,Option.bind_some,ht]
   cases he:T d <;> rw[he]at hr' <;> (generalize a.tmps[d]=v' at hr' ⊢) <;> cases hr' <;> first|rfl|(rename_i _ hnb;revert hnb;cases v' <;> first|(intro _;rfl)|(intro hnb;exact absurd rfl (hnb _)))
theorem Pm {D:List Deferred}(hC:jh P C){ops:Array Oper}{Q:Exit→Act→World→Prop}{K:Env→aa→Prop}: ∀(os:List Oper) (xs:List aF) (R:Ren) (H:aa) (T:Env) (a:Act) (w:World),
 iG P n ops os=some xs→fu P C xs K T H→gT R H w→iC n R T a.tmps→a.defers=D →
 (∀T' H' R' a' w',K T' H'→gT R' H' w'→iC n R' T' a'.tmps→a'.defers=D→Ext R H w R' H' w'→Q .normal a' w')→wpList P ops Q os a w
 |[],xs,R,H,T,a,w,hx,h,hS,hT,hd,hK=>by
  simp only[iG,Option.some.injEq]at hx
  subst hx
  exact hK T H R a w h hS hT hd (Ext.refl _ _ _)
 |o::os,xs,R,H,T,a,w,hx,h,hS,hT,hd,hK=>by
  simp only[iG]at hx
  cases hxo:qK P n ops o with
  |none=>rw[hxo]at hx;simp at hx
  |some x=>
   cases hxs:iG P n ops os with
   |none=>rw[hxo,hxs]at hx;simp at hx
   |some xs'=>
    rw[hxo,hxs]at hx
    simp only[Option.some.injEq]at hx
    subst hx
    unfold qK at hxo
    split at hxo
    case h_2=>cases hxo
    rename_i io g hio hg
    split at hxo
    case isFalse=>cases hxo
    rename_i hcond
    injection hxo with hxo
    subst hxo
    simp only[Bool.and_eq_true]at hcond
    have hdst: ∀x,o.dst=some x→x<n:=fun x hx=>by have:=hcond.1;rw[hx]at this;simpa[ltO]using this
    have hgd: ∀d b,g=some (d,b)→d<n:=fun d b hgb=>by have:=hcond.2;rw[hgb]at this;simpa[ltG]using this
    unfold wpList
    rw[Aq hT hg hgd]
    simp only[fu]at h
    cases hw:bV T g with
    |true=>
     rw[hw]at h
     simp only[if_true]
     refine .inl (TE hC hS hT hio h fun v v' R' H' w' k1 k2 k3 k4=> ?_)
     exact Pm hC os xs' R' H' _ _ w' hxs k1 k3 ((hT.mono k4.le).put hdst k2) (by rw[put_defers];exact hd) fun T'' H'' R'' a'' w'' q1 q2 q3 q4 q5=>hK T'' H'' R'' a'' w'' q1 q2 q3 q4 (k4.trans q5)
    |false=>
     rw[hw]at h
     simp only[Bool.false_eq_true,if_false]
     exact Pm hC os xs' R H _ _ w hxs h hS (hT.put hdst (VR.undef R)) (by rw[put_defers];exact hd) hK
end
end
def bO.bJ:bO→List Operand
 | .raw o _=>o.operands.toList
 | .move x| .box x| .aj x| .aL _ x| .nilCheck x| .aJ _ _ x| .bq _ x| .Kj x| .cZ x| .fieldAddr _ x| .GZ _ x| .Vb _ _ x| .bM x| .G6 x| .Fv x
 | .extract x _| .gJ _ _ _ x| .rP _ x=>[x]
 | .pick c a b=>[c,a,b]
 | .alloc _| .mkMap=>[]
 | .build _ ps| .buildSlice _ _ ps=>ps.map (·.2)
 | .store _ a x| .mkSlice _ _ a x| .bY _ a x| .dY _ _ a x| .I6 _ a x| .rO _ _ a x| .lookup _ _ _ a x| .delete _ a x| .copy _ a x| .append _ _ a x| .eG a x| .mD _ _ a x=>[a,x]
 | .aV _ first captured=>first++captured
 | .aC _ x lo hi mx| .qJ _ _ x lo hi mx=>x::(lo.toList++hi.toList++mx.toList)
 | .mapUpdate _ m k v=>[m,k,v]
 | .call _ args=>args
 | .aZ f args=>f::args
 | .bin _ x y| .wX x y| .eqv _ _ x y| .rQ _ x y| .dL x y=>[x,y]
 | .un _ x| .conv _ x| .ay x=>[x]
 | .bX x lo hi=>x::(lo.toList++hi.toList)
 | .rangeMap x| .lC x| .o6 x| .jQ x=>[x]
 | .jL d s=>[d,s]
 | .invoke _ x args=>x::args
 | .never=>[]
theorem kW {f g:Operand→Value}{l:List Operand}(h: ∀x ∈ l,f x=g x):l.map f=l.map g:=List.map_congr_left h
theorem Ar {T T':Env}{x:Operand}(h:ev T x=ev T' x):gK T x=gK T' x:=by unfold gK;rw[h]
theorem uX {T T':Env}{len:Nat}{lo hi mx:Option Operand}(h: ∀x ∈ lo.toList++hi.toList++mx.toList,ev T x=ev T' x):bH T len lo hi mx=bH T' len lo hi mx:=by
 have h1: ∀x,lo=some x→gK T x=gK T' x:=fun x hx=>Ar (h x (by simp[hx]))
 have h2: ∀x,hi=some x→gK T x=gK T' x:=fun x hx=>Ar (h x (by simp[hx]))
 have h3: ∀x,mx=some x→gK T x=gK T' x:=fun x hx=>Ar (h x (by simp[hx]))
 unfold bH
 cases lo <;> cases hi <;> cases mx <;> simp only[] <;> (try rw[h1 _ rfl]) <;> (try rw[h2 _ rfl]) <;> (try rw[h3 _ rfl])
theorem G8 {T T':Env}{ps:List ((Nat×Nat)×Operand)}(h: ∀x ∈ ps.map (·.2),ev T x=ev T' x):(ps.map fun p=>(p.1,ev T p.2))=(ps.map fun p=>(p.1,ev T' p.2)):=
 List.map_congr_left fun p hp=>by rw[h p.2 (List.mem_map.2 ⟨p,hp,rfl⟩)]
theorem Wl {P:Program}{T T':Env}{H:aa}{o:Op}{ty:TypeId}(hsel: ∀cs b,o ≠ .select cs b)(h: ∀x ∈ o.operands.toList,ev T x=ev T' x):bB P T H (.raw o ty)=bB P T' H (.raw o ty):=by
 have e:execOp (ev T) ⟨none,o,ty, "",#[],none⟩=execOp (ev T') ⟨none,o,ty, "",#[],none⟩:=execOp_congr _ hsel fun x hx=>h x (by simpa using hx)
 have e2:o.operands.toList.all (fun x=>nL (ev T x))=o.operands.toList.all (fun x=>nL (ev T' x)):=by
  rw[Bool.eq_iff_iff,List.all_eq_true,List.all_eq_true]
  exact⟨fun k x hx=>by rw[←h x hx];exact k x hx,fun k x hx=>by rw[h x hx];exact k x hx⟩
 simp only[bB,e,e2]
theorem Ob {P:Program}{T T':Env}{H:aa}{io:bO}(hsel: ∀cs b ty,io ≠ .raw (.select cs b) ty)(h: ∀x ∈ io.bJ,ev T x=ev T' x):bB P T H io=bB P T' H io:=by
 cases io <;> simp only[bO.bJ]at h
 case raw o ty=>exact Wl (fun cs b e=>hsel cs b ty (by rw[e])) h
 case build z ps=>simp only[bB];rw[G8 h]
 case aV f first captured=>
  simp only[bB]
  rw[kW fun x hx=>h x (List.mem_append_left _ hx),kW (l:=captured) fun x hx=>h x (List.mem_append_right _ hx)]
 case aC s x lo hi mx=>
  have hb:=fun len=>uX (len:=len) fun y hy=>h y (List.mem_cons_of_mem _ hy)
  simp only[bB,h x (by simp),hb]
 case qJ s n x lo hi mx=>
  have hb:=fun len=>uX (len:=len) fun y hy=>h y (List.mem_cons_of_mem _ hy)
  simp only[bB,h x (by simp),hb]
 case bX x lo hi=>
  have hb:=fun len=>uX (len:=len) (mx:=none) fun y hy=>h y (List.mem_cons_of_mem _ (by simpa using hy))
  simp only[bB,h x (by simp),hb]
 all_goals first
  |rfl
  |(simp only[bB];rename_i x;rw[h x (by simp)];done)
  |(simp only[bB];rename_i x _;rw[h x (by simp)];done)
  |(simp only[bB];rename_i x y;rw[h x (by simp),h y (by simp)];done)
  |(simp only[bB];rename_i x y z;rw[h x (by simp),h y (by simp),h z (by simp)];done)
theorem Oc {T T':Env}{io:bO}(h: ∀x ∈ io.bJ,ev T x=ev T' x):j3 T io=j3 T' io:=by
 cases io <;> simp only[bO.bJ]at h
 case buildSlice n z ps=>simp only[j3];rw[G8 h]
 all_goals first
  |rfl
  |(simp only[j3];rename_i x;rw[h x (by simp)];done)
  |(simp only[j3];rename_i x y;rw[h x (by simp),h y (by simp)];done)
theorem TF {P:Program}{T T':Env}{H:aa}{io:bO}(h: ∀x ∈ io.bJ,ev T x=ev T' x):fQ P T H io=fQ P T' H io:=by
 cases io <;> simp only[bO.bJ]at h
 all_goals first
  |rfl
  |(simp only[fQ];rename_i x;rw[h x (by simp)];done)
  |(simp only[fQ];rename_i x y;rw[h x (by simp),h y (by simp)];done)
  |(simp only[fQ];rename_i x y z;rw[h x (by simp),h y (by simp),h z (by simp)];done)
theorem Rc {C:bu}{T T':Env}{H:aa}{K:Value→aa→Prop}{io:bO}(h: ∀x ∈ io.bJ,ev T x=ev T' x):jM C T H K io=jM C T' H K io:=by
 cases io <;> simp only[bO.bJ]at h
 case call f args=>simp only[jM];rw[kW h]
 case aZ f args=>
  simp only[jM]
  rw[h f (by simp),kW fun x hx=>h x (List.mem_cons_of_mem _ hx)]
 case rangeMap x=>simp only[jM];rw[h x (by simp)]
 case lC x=>simp only[jM];rw[h x (by simp)]
 case o6 x=>simp only[jM];rw[h x (by simp)]
 case invoke t x args=>
  simp only[jM]
  rw[h x (by simp),kW fun y hy=>h y (List.mem_cons_of_mem _ hy)]
 all_goals rfl
theorem Wm {P:Program}{C:bu}{T T':Env}{H:aa}{K:Value→aa→Prop}{io:bO}(hsel: ∀cs b ty,io ≠ .raw (.select cs b) ty)(h: ∀x ∈ io.bJ,ev T x=ev T' x):Dq P C T H io K=Dq P C T' H io K:=by
 unfold Dq
 rw[Ob hsel h,Oc h,TF h,Rc h]
theorem Nh {T T':Env}{g:Option (Nat×Bool)}(h: ∀d b,g=some (d,b)→T d=T' d):bV T g=bV T' g:=by
 cases g with
 |none=>rfl
 |some x=>obtain⟨d,b⟩:=x;unfold bV;simp only[h d b rfl]
theorem Po {P:Program}{T:Env}{H H':aa}{io:bO}(h:io.looks=false):bB P T H io=bB P T H' io:=by
 cases io <;> first
  |rfl
  |(simp[bO.looks]at h;done)
  |skip
 case qJ n s x lo hi mx=>
  simp only[bB]
  have: ∀(a:Option Addr) l hh m,n<dQ→bK H s a n n l hh m=bK H' s a n n l hh m:=by
   intro a l hh m hn
   unfold bK
   rw[if_pos hn,if_pos hn]
  split
  ·split
   ·split
    ·rename_i hn;exact this _ _ _ _ hn
    ·rfl
   ·rfl
  ·rfl
def aa.sub (H H':aa):Prop:=∀b o,H.get b=some o→H'.get b=some o
theorem Zo {P:Program}{T:Env}{H H':aa}{io:bO}{v:Value}(hs:H.sub H')(h:bB P T H io=some v):bB P T H' io=some v:=by
 have hL: ∀b o n l,H.aT b o n=some l→H'.aT b o n=some l:=by
  intro b o n l hl
  unfold aa.aT at hl ⊢
  cases hg:H.get b with
  |none=>rw[hg]at hl;simp at hl
  |some x=>rw[hs b x hg];rw[hg]at hl;exact hl
 have h1: ∀b o v,H.aj b o=some v→H'.aj b o=some v:=by
  intro b o v hl
  unfold aa.aj at hl ⊢
  cases hg:H.get b with
  |none=>rw[hg]at hl;simp at hl
  |some x=>rw[hs b x hg];rw[hg]at hl;exact hl
 by_cases hl:io.looks=true
 ·cases io <;> first|(simp[bO.looks]at hl;done)|skip
  case aj x=>
   simp only[bB]at h ⊢
   split at h
   ·exact h1 _ _ _ h
   ·cases h
  case wX x y=>
   have hr: ∀b o,O4 H b o=true→O4 H' b o=true:=by
    intro b o hb
    unfold O4 at hb ⊢
    cases hg:H.get b with
    |none=>rw[hg]at hb;cases hb
    |some x=>rw[hs b x hg];rw[hg]at hb;exact hb
   have hp: ∀p q r,ptrEq H p q=some r→ptrEq H' p q=some r:=by
    intro p q r hpq
    unfold ptrEq at hpq ⊢
    split at hpq
    ·split at hpq
     ·rename_i hb;rw[if_pos hb];exact hpq
     ·rename_i hb
      rw[if_neg hb]
      split at hpq
      ·rename_i hc
       rw[Bool.and_eq_true]at hc
       rw[if_pos (by rw[hr _ _ hc.1,hr _ _ hc.2];rfl)];exact hpq
      ·cases hpq
    ·cases hpq
   simp only[bB,uQ]at h ⊢
   split at h
   ·split at h
    ·simp only[Option.map_eq_some_iff]at h ⊢
     obtain⟨r,h1,h2⟩:=h
     exact⟨r,hp _ _ _ h1,h2⟩
    ·cases h
   ·cases h
  case aL n x=>
   simp only[bB]at h ⊢
   split at h
   ·rename_i b o _
    cases hq:H.aT b o n with
    |none=>rw[hq]at h;simp at h
    |some l=>rw[hL _ _ _ _ hq];rw[hq]at h;exact h
   ·cases h
  case cZ x=>
   simp only[bB]at h ⊢
   split at h
   ·exact h
   ·rename_i b o n _ _
    cases hq:H.aT b o n with
    |none=>rw[hq]at h;simp at h
    |some l=>rw[hL _ _ _ _ hq];rw[hq]at h;exact h
   ·cases h
  case Fv x=>
   simp only[bB]at h ⊢
   split at h
   ·exact h
   ·rename_i r _
    cases hg:H.get r with
    |none=>rw[hg]at h;simp at h
    |some o=>rw[hs r o hg];rw[hg]at h;exact h
   ·cases h
  case lookup kt z ok m k=>
   simp only[bB]at h ⊢
   have hent: ∀es,mF H (ev T m)=some es→mF H' (ev T m)=some es:=by
    intro es he
    unfold mF at he ⊢
    split at he
    ·exact he
    ·rename_i r _
     cases hg:H.get r with
     |none=>rw[hg]at he;simp at he
     |some o=>simp only[hs r o hg];rw[hg]at he;exact he
    ·cases he
   split at h
   ·rename_i es he
    rw[hent es he]
    exact h
   ·cases h
  case aC s x lo hi mx=>
   simp only[bB]at h ⊢
   split at h
   ·rename_i a len cap _
    split at h
    ·rename_i l hh m hb
     unfold bK at h ⊢
     split at h
     ·rename_i hc;rw[if_pos hc];exact h
     ·rename_i hc
      rw[if_neg hc]
      split at h
      ·rename_i b o _
       split at h
       ·rename_i hcond
        have hf:tN H b (o+m.getD hh*s)=true→tN H' b (o+m.getD hh*s)=true:=by
         intro hf
         unfold tN at hf ⊢
         cases hg:H.get b with
         |none=>rw[hg]at hf;simp at hf
         |some o=>rw[hs b o hg];rw[hg]at hf;exact hf
        rw[if_pos ⟨hcond.1,hcond.2.1,hcond.2.2.imp id hf⟩]
        exact h
       ·cases h
      ·cases h
    ·cases h
   ·cases h
 ·rw[Po (H':=H) (by simpa using hl)]at h
  rw[Po (H':=H) (by simpa using hl)]
  exact h
theorem TG {P:Program}{o:Oper}{io:bO}(hc:iR P o=some io): ∀cs b,o.op ≠ .select cs b:=by
 intro cs b he
 unfold iR at hc
 split at hc
 ·cases hc
 ·rw[he]at hc;simp at hc
theorem uY {place:Nat→Option (Nat×Nat)}: ∀{l:List (Nat×Operand)} {ps:List ((Nat×Nat)×Operand)},fH place l=some ps→ps.map (·.2)=l.map (·.2)
 |[],ps,h=>by simp only[fH,Option.some.injEq]at h;subst h;rfl
 |(i,x)::r,ps,h=>by
  simp only[fH,bind,Option.bind,pure]at h
  cases hp:place i with
  |none=>simp[hp]at h
  |some p=>
   cases hr:fH place r with
   |none=>simp[hp,hr]at h
   |some rs=>
    simp only[hp,hr,Option.some.injEq]at h
    subst h
    simp[uY hr]
structure xm (op:Op)(io:bO):Prop where
 mem: ∀x ∈ io.bJ,x ∈ op.operands.toList∨∃v,x = .const v
 sel: ∀cs b ty,io ≠ .raw (.select cs b) ty
theorem xm.raw {op:Op}{ty:TypeId}(h: ∀cs b,op ≠ .select cs b):xm op (.raw op ty):=
 ⟨fun x hx=>.inl hx,fun cs b ty he=>by injection he with h1;exact h cs b h1⟩
theorem TH {P:Program}{o:Oper}{io:bO}(hc:iR P o=some io):xm o.op io:=by
 have hsel:=TG hc
 unfold iR at hc
 split at hc
 ·cases hc
 rename_i hok0
 clear hok0
 obtain⟨dst,op,ty,pos,after,g⟩:=o
 simp only at hc hsel ⊢
 cases op with
 |select cs b=>simp at hc
 |move x=>simp at hc;subst hc;exact⟨by simp[bO.bJ,Op.operands],by simp⟩
 |assign x=>simp at hc;subst hc;exact⟨by simp[bO.bJ,Op.operands],by simp⟩
 |pick c x y=>simp at hc;subst hc;exact⟨by simp[bO.bJ,Op.operands],by simp⟩
 |alloc t=>cases hz:gz P t <;> simp[hz]at hc;subst hc;exact⟨by simp[bO.bJ],by simp⟩
 |box t x=>simp at hc;subst hc;exact⟨by simp[bO.bJ,Op.operands],by simp⟩
 |build t parts=>
  simp only[]at hc
  split at hc
  ·rename_i z fs hz hu
   cases hp:mH P fs.toList with
   |none=>simp[hp]at hc
   |some pl=>
    cases hq:fH (pl[·]?) parts.toList with
    |none=>simp[hp,hq]at hc
    |some ps=>simp[hp,hq]at hc;subst hc;exact⟨by simp only[bO.bJ,Op.operands,uY hq];intro x hx;exact .inl hx,by simp⟩
  ·rename_i z k e hz hu
   cases hsz:bz P e with
   |none=>simp[hsz]at hc
   |some s=>
    cases hq:fH (fun i=>some (i*s,s)) parts.toList with
    |none=>simp[hsz,hq]at hc
    |some ps=>simp[hsz,hq]at hc;subst hc;exact⟨by simp only[bO.bJ,Op.operands,uY hq];intro x hx;exact .inl hx,by simp⟩
  ·cases hc
 |buildSlice t len parts=>
  simp only[]at hc
  split at hc
  ·split at hc
   ·split at hc
    ·rename_i e hu _ _ s z hs hz hcond
     cases hq:fH (fun i=>some (i*s,s)) parts.toList with
     |none=>simp[hq]at hc
     |some ps=>simp[hq]at hc;subst hc;exact⟨by simp only[bO.bJ,Op.operands,uY hq];intro x hx;exact .inl hx,by simp⟩
    ·cases hc
   ·cases hc
  ·cases hc
 |insert t m k x=>simp only[]at hc;split at hc <;> simp at hc;subst hc;exact⟨by simp[bO.bJ,Op.operands],by simp⟩
 |mapUpdate t m k x=>simp only[]at hc;split at hc <;> simp at hc;subst hc;exact⟨by simp[bO.bJ,Op.operands],by simp⟩
 |load t x=>simp only[]at hc;split at hc <;> simp at hc <;> subst hc <;> exact⟨by simp[bO.bJ,Op.operands],by simp⟩
 |store t x y=>simp only[]at hc;cases hsz:bz P t <;> simp[hsz]at hc;subst hc;exact⟨by simp[bO.bJ,Op.operands],by simp⟩
 |nilCheck x=>simp at hc;subst hc;exact⟨by simp[bO.bJ,Op.operands],by simp⟩
 |binOp Zh t x y yt=>
  simp only[]at hc
  have heq: ∀neg,uT P (.binOp Zh t x y yt) ty neg t x y=io→xm (.binOp Zh t x y yt) io:=by
   intro neg he
   unfold uT at he
   split at he
   ·split at he
    ·subst he;exact⟨by simp[bO.bJ,Op.operands],by simp⟩
    ·subst he;exact xm.raw hsel
   ·split at he
    ·subst he;exact⟨by simp[bO.bJ,Op.operands],by simp⟩
    ·subst he;exact xm.raw hsel
  cases Zh <;> simp only[Option.some.injEq]at hc <;> first
   |exact heq _ hc
   |(subst hc;exact xm.raw hsel)
 |convert s d x=>
  simp only[]at hc
  split at hc
  ·split at hc <;> simp at hc;subst hc;exact⟨by simp[bO.bJ,Op.operands],by simp⟩
  ·split at hc <;> simp at hc;subst hc;exact⟨by simp[bO.bJ,Op.operands],by simp⟩
  ·simp at hc;subst hc;exact xm.raw hsel
 |makeInterface t x=>simp only[]at hc;split at hc <;> simp at hc;subst hc;exact⟨by simp[bO.bJ,Op.operands],by simp⟩
 |makeFunc fn first captured=>
  cases fn with
  |func f=>simp at hc;subst hc;exact⟨fun x hx=>.inl (by simpa[bO.bJ,Op.operands]using hx),by simp⟩
  |_=>simp at hc;subst hc;exact xm.raw hsel
 |makeMap t r=>
  cases r with
  |none=>simp at hc;subst hc;exact⟨by simp[bO.bJ],by simp⟩
  |some r=>simp at hc;subst hc;exact xm.raw hsel
 |makeSlice t l c=>
  simp only[]at hc
  split at hc
  ·split at hc
   ·split at hc
    ·injection hc with hc;subst hc;exact⟨by simp[bO.bJ,Op.operands],by simp⟩
    ·cases hc
   ·cases hc
  ·cases hc
 |slice t x lo hi mx=>
  simp only[]at hc
  have hm: ∀y,y ∈ x::(lo.toList++hi.toList++mx.toList)→y ∈ (Op.slice t x lo hi mx).operands.toList:=by
   intro y hy
   simp only[Op.operands]
   simpa[or_assoc]using hy
  split at hc
  ·rename_i e hu
   cases hsz:bz P e with
   |none=>simp[hsz]at hc
   |some s=>simp only[hsz,Option.bind_some]at hc;split at hc <;> simp at hc;subst hc;exact⟨fun y hy=>.inl (hm y hy),by simp⟩
  ·rename_i k e hu
   cases hsz:bz P e with
   |none=>simp[hsz]at hc
   |some s=>simp only[hsz,Option.bind_some]at hc;split at hc <;> simp at hc;subst hc;exact⟨fun y hy=>.inl (hm y hy),by simp⟩
  ·simp at hc;subst hc;exact xm.raw hsel
  ·cases hc
 |fieldAddr t x i=>
  simp only[]at hc
  split at hc
  ·split at hc
   ·rename_i f hf
    cases hsz:bz P f.type with
    |none=>simp[hsz]at hc
    |some s=>simp only[hsz,Option.bind_some]at hc;split at hc <;> simp at hc;subst hc;exact⟨by simp[bO.bJ,Op.operands],by simp⟩
   ·cases hc
  ·cases hc
 |field t x i=>
  simp only[]at hc
  split at hc
  ·split at hc
   ·split at hc <;> simp at hc <;> subst hc <;> exact⟨by simp[bO.bJ,Op.operands],by simp⟩
   ·cases hc
  ·cases hc
 |indexAddr t x i=>
  simp only[]at hc
  split at hc
  ·rename_i e hu;cases hsz:bz P e <;> simp[hsz]at hc;subst hc;exact⟨by simp[bO.bJ,Op.operands],by simp⟩
  ·rename_i k e hu
   split at hc
   ·cases hsz:bz P e <;> simp[hsz]at hc;subst hc;exact⟨by simp[bO.bJ,Op.operands],by simp⟩
   ·cases hc
  ·cases hc
 |index t x i=>
  simp only[]at hc
  split at hc
  ·simp at hc;subst hc;exact xm.raw hsel
  ·split at hc <;> simp at hc <;> subst hc <;> exact⟨by simp[bO.bJ,Op.operands],by simp⟩
  ·cases hc
 |lookup t m k ok=>
  simp only[]at hc
  split at hc
  ·rename_i kt e hu;cases hz:gz P e <;> simp[hz]at hc;subst hc;exact⟨by simp[bO.bJ,Op.operands],by simp⟩
  ·cases hc
 |typeAssert x xt t ok=>
  simp only[]at hc
  split at hc
  ·cases hc
  ·cases hz:gz P t <;> simp[hz]at hc;subst hc;exact⟨by simp[bO.bJ,Op.operands],by simp⟩
  ·cases hc
 |extract x i=>simp at hc;subst hc;exact⟨by simp[bO.bJ,Op.operands],by simp⟩
 |call c=>
  obtain⟨callee,args,nE⟩:=c
  simp only[]at hc
  split at hc
  ·injection hc with hc;subst hc;exact⟨fun x hx=>.inl (by simp only[bO.bJ]at hx;simp[Op.operands,Call.operands];exact .inr (by simpa using hx)),by simp⟩
  ·injection hc with hc;subst hc;exact⟨fun x hx=>.inl (by simpa[Op.operands,Call.operands,bO.bJ]using hx),by simp⟩
  ·rename_i b
   have hmem: ∀x,x ∈ args.toList→x ∈ (Op.call ⟨.builtin b,args,nE⟩).operands.toList:=by intro x hx;simp[Op.operands,Call.operands];simpa using hx
   have fin: ∀{i:bO},(i=io)→(∀x ∈ i.bJ,x ∈ args.toList∨∃v,x = .const v)→(∀cs b ty,i ≠ .raw (.select cs b) ty)→xm (.call ⟨.builtin b,args,nE⟩) io:=
    fun e h1 h2=>e▸⟨fun x hx=>(h1 x hx).imp (hmem x) id,h2⟩
   unfold jd at hc
   split at hc
   ·rename_i t x hty hxs;rw[hxs]at fin
    split at hc
    ·injection hc with hc;exact fin hc (by simp[bO.bJ]) (by simp)
    ·injection hc with hc;exact fin hc (by simp[bO.bJ]) (by simp)
    ·injection hc with hc;exact fin hc (by simp[bO.bJ]) (by simp)
    ·split at hc
     ·injection hc with hc;exact fin hc (by simp[bO.bJ]) (by simp)
     ·cases hc
    ·injection hc with hc;subst hc;exact xm.raw hsel
   ·rename_i t x hty hxs;rw[hxs]at fin
    split at hc
    ·injection hc with hc;exact fin hc (by simp[bO.bJ]) (by simp)
    ·cases hc
   ·rename_i t u s x hty hxs;rw[hxs]at fin
    split at hc
    ·split at hc <;> first|(split at hc <;> first|(injection hc with hc;exact fin hc (by simp[bO.bJ]) (by simp))|cases hc)|cases hc
    ·cases hc
   ·rename_i t u s x hty hxs;rw[hxs]at fin
    split at hc
    ·rename_i e _ _ _;cases hq:bz P e <;> simp[hq]at hc;exact fin hc (by simp[bO.bJ]) (by simp)
    ·cases hc
   ·rename_i t x hty hxs;rw[hxs]at fin
    split at hc
    ·rename_i e _
     cases hq:gz P e with
     |none=>simp[hq]at hc
     |some z=>simp only[hq,Option.bind_some]at hc;split at hc <;> simp at hc;exact fin hc (by simp[bO.bJ]) (by simp)
    ·cases hc
   ·rename_i t u s x hty hxs;rw[hxs]at fin
    split at hc <;> first|(injection hc with hc;exact fin hc (by simp[bO.bJ]) (by simp))|cases hc
   all_goals first|(injection hc with hc;subst hc;exact xm.raw hsel)|cases hc
  ·cases hc
 |range t x=>
  simp only[]at hc
  split at hc
  ·injection hc with hc;subst hc;exact⟨by simp[bO.bJ,Op.operands],by simp⟩
  ·cases hc
 |next x s=>
  cases s with
  |true=>simp only[]at hc;cases hc
  |false=>simp only[]at hc;injection hc with hc;subst hc;exact⟨by simp[bO.bJ,Op.operands],by simp⟩
 |entry x=>simp only[Option.some.injEq]at hc;subst hc;exact⟨by simp[bO.bJ,Op.operands],by simp⟩
 |_=>simp at hc;subst hc;exact xm.raw hsel
theorem Fz {P:Program}{o:Oper}{io:bO}(hc:sU P o=some io):xm o.op io:=by
 rcases tZ hc with hc|⟨-,rfl⟩
 ·exact TH hc
 ·obtain⟨dst,op,ty,pos,after,g⟩:=o
  unfold zS
  split
  ·exact⟨by simp[bO.bJ],by simp⟩
  rename_i Q8
  clear Q8
  simp only
  split
  case h_2=>exact⟨by simp[bO.bJ],by simp⟩
  rename_i c
  obtain⟨callee,args,nE⟩:=c
  simp only
  split
  ·rename_i hty hxs
   obtain rfl:=Ky hxs
   (repeat' split) <;> exact⟨by simp[bO.bJ,Op.operands,Call.operands],by simp⟩
  ·rename_i hty hxs
   obtain rfl:=Pb hxs
   (repeat' split) <;> exact⟨by simp[bO.bJ,Op.operands,Call.operands],by simp⟩
  ·exact⟨by simp[bO.bJ,Op.operands,Call.operands];exact fun x hx=>.inl (.inr hx),by simp⟩
  ·exact⟨by simp[bO.bJ],by simp⟩
section
def Re (acc:List Nat)(o:Oper):Nat:=o.after.toList.foldl (fun s e=>if Region.binds .any e then s ||| 2 ^ e.on ||| acc.getD e.on 0 else s) 0
theorem Od: ∀(os:List Oper) (acc:List Nat),∃r,fF os acc=acc++r∧r.length=os.length∧∀k o,os[k]? =some o→r[k]? =some (Re (acc++r.take k) o)
 |[],acc=>⟨[],by simp[fF],rfl,by simp⟩
 |o::os,acc=>by
  obtain⟨r,h1,h2,h3⟩:=Od os (acc++[Re acc o])
  refine⟨Re acc o::r,?_,by simp[h2],fun k o' hk=> ?_⟩
  ·show fF os (acc++[Re acc o])=_
   rw[h1];simp
  ·cases k with
   |zero=>simp at hk;subst hk;simp
   |succ k=>
    have:=h3 k o' (by simpa using hk)
    simpa using this
theorem Oe {acc:List Nat}{j:Nat}: ∀(l:List Edge) (s:Nat),(l.foldl (fun s e=>if Region.binds .any e then s ||| 2 ^ e.on ||| acc.getD e.on 0 else s) s).testBit j=true →
 s.testBit j=true∨∃e ∈ l,Region.binds .any e=true∧(e.on=j∨(acc.getD e.on 0).testBit j=true)
 |[],s,h=>.inl h
 |e::l,s,h=>by
  simp only[List.foldl_cons]at h
  rcases Oe l _ h with h1|⟨e',he',h1⟩
  ·by_cases hb:Region.binds .any e=true
   ·rw[if_pos hb,Nat.testBit_or,Nat.testBit_or,Nat.testBit_two_pow]at h1
    simp only[Bool.or_eq_true,decide_eq_true_eq]at h1
    rcases h1 with (h1|h1)|h1
    ·exact .inl h1
    ·exact .inr ⟨e,by simp,hb,.inl h1⟩
    ·exact .inr ⟨e,by simp,hb,.inr h1⟩
   ·rw[if_neg hb]at h1;exact .inl h1
  ·exact .inr ⟨e',by simp[he'],h1⟩
theorem xq: ∀(os:List Oper) (i:Nat),iH os i=true→∀k o,os[k]? =some o→∀e ∈ o.after.toList,Region.binds .any e=true→e.on<i+k
 |[],_,_,k,o,hk,_,_,_=>by simp at hk
 |o'::os,i,h,k,o,hk,e,he,hb=>by
  simp only[iH,Bool.and_eq_true]at h
  cases k with
  |zero=>
   simp at hk;subst hk
   have:=List.all_eq_true.1 h.1 e he
   simpa[hb]using this
  |succ k=>
   have:=xq os (i+1) h.2 k o (by simpa using hk) e he hb
   omega
section
variable {ops:Array Oper}
theorem Rf (hb:iH ops.toList 0=true){i:Nat}{o:Oper}{j:Nat}(ho:ops[i]? =some o)(h:waits (fF ops.toList []) i j=true):
 ∃e ∈ o.after.toList,Region.binds .any e=true∧e.on<i∧(e.on=j∨waits (fF ops.toList []) e.on j=true):=by
 obtain⟨r,h1,h2,h3⟩:=Od ops.toList []
 have ho':ops.toList[i]? =some o:=by simpa using ho
 have hr:=h3 i o ho'
 rw[List.nil_append]at h1 hr
 unfold waits at h ⊢
 rw[h1]at h ⊢
 have hg:r.getD i 0=Re (r.take i) o:=by rw[List.getD_eq_getElem?_getD,hr];rfl
 rw[hg]at h
 rcases Oe _ _ h with h4|⟨e,he,hbe,h4⟩
 ·simp at h4
 ·have hlt:e.on<i:=by have:=xq ops.toList 0 hb i o ho' e he hbe;omega
  refine⟨e,he,hbe,hlt,h4.imp id fun h5=> ?_⟩
  have:(r.take i).getD e.on 0=r.getD e.on 0:=by
   rw[List.getD_eq_getElem?_getD,List.getD_eq_getElem?_getD,List.getElem?_take,if_pos hlt]
  rw[this]at h5;exact h5
def Cl (ops:Array Oper)(S:Nat→Prop):Prop:=∀i o,ops[i]? =some o→S i→∀e ∈ o.after.toList,Region.binds .any e=true→S e.on
theorem DN (hb:iH ops.toList 0=true){S:Nat→Prop}(hcl:Cl ops S): ∀(i:Nat) (o:Oper) (j:Nat),ops[i]? =some o→(∀e ∈ o.after.toList,Region.binds .any e=true→S e.on) →
 waits (fF ops.toList []) i j=true→S j:=by
 intro i
 induction i using Nat.strongRecOn with
 |_ i ih=>
  intro o j ho hr hw
  obtain⟨e,he,hbe,hlt,h4⟩:=Rf hb ho hw
  have hs:=hr e he hbe
  rcases h4 with rfl|h4
  ·exact hs
  ·have hlt':e.on<ops.size:=Nat.lt_trans hlt (Array.getElem?_eq_some_iff.1 ho).1
   exact ih e.on hlt ops[e.on] j (by simp[hlt']) (hcl e.on _ (by simp[hlt']) hs) h4
theorem Zp (hb:iH ops.toList 0=true){S:Nat→Prop}(hcl:Cl ops S){i j:Nat}{o:Oper}(ho:ops[i]? =some o)(hs:S i)(hw:waits (fF ops.toList []) i j=true):S j:=
 DN hb hcl i o j ho (hcl i o ho hs) hw
def fJ (ops:Array Oper)(i:Nat):Option Nat:=(ops[i]?).bind (·.dst)
end
section
variable {P:Program} {C:bu} {n:Nat} {ops:Array Oper} {xs:List aF}
theorem zY: ∀{os:List Oper} {xs:List aF},iG P n ops os=some xs→xs.length=os.length∧∀(i:Nat) (o:Oper),os[i]? =some o→∃x,xs[i]? =some x∧qK P n ops o=some x
 |[],xs,h=>by simp only[iG,Option.some.injEq]at h;subst h;exact⟨rfl,by simp⟩
 |o::os,xs,h=>by
  simp only[iG]at h
  cases hx:qK P n ops o with
  |none=>rw[hx]at h;simp at h
  |some x=>
   cases hxs:iG P n ops os with
   |none=>rw[hx,hxs]at h;simp at h
   |some r=>
    rw[hx,hxs]at h
    simp only[Option.some.injEq]at h
    subst h
    obtain⟨h1,h2⟩:=zY hxs
    refine⟨by simp[h1],fun i o' hi=> ?_⟩
    cases i with
    |zero=>simp at hi;subst hi;exact⟨x,by simp,hx⟩
    |succ i=>
     obtain⟨y,hy,hc⟩:=h2 i o' (by simpa using hi)
     exact⟨y,by simpa using hy,hc⟩
structure qO (P:Program)(n:Nat)(ops:Array Oper)(o:Oper)(x:aF):Prop where
 op:sU P o=some x.op
 guard:nM ops o.guard=some x.guard
 dst:x.dst=o.dst
 lt: ∀d,o.dst=some d→d<n
 glt: ∀d b,x.guard=some (d,b)→d<n
theorem Ni {o:Oper}{x:aF}(h:qK P n ops o=some x):qO P n ops o x:=by
 unfold qK at h
 split at h
 case h_2=>cases h
 rename_i io g hio hg
 split at h
 case isFalse=>cases h
 rename_i hcond
 injection h with h
 subst h
 simp only[Bool.and_eq_true]at hcond
 exact⟨hio,hg,rfl,fun d hd=>by have:=hcond.1;rw[hd]at this;simpa[ltO]using this,fun d b hgb=>by have:=hcond.2;simp only[]at hgb;rw[hgb]at this;simpa[ltG]using this⟩
def Agree (ops:Array Oper)(o:Oper)(E E':Env):Prop:=∀d ∈ Ak ops o,E d=E' d
theorem Agree.bJ {o:Oper}{x:aF}(hx:qO P n ops o x){E E':Env}(h:Agree ops o E E'): ∀y ∈ x.op.bJ,ev E y=ev E' y:=by
 intro y hy
 rcases(Fz hx.op).mem y hy with h1|⟨v,rfl⟩
 ·cases y with
  |tmp t=>exact h t (by unfold Ak Oper.looksAt;exact List.mem_append_left _ (List.mem_filterMap.2 ⟨.tmp t,h1,rfl⟩))
  |_=>rfl
 ·rfl
theorem Agree.guard {o:Oper}{x:aF}(hx:qO P n ops o x){E E':Env}(h:Agree ops o E E'):bV E x.guard=bV E' x.guard:=by
 refine Nh fun d b hd=>h d ?_
 have hg:=hx.guard
 rw[hd]at hg
 cases hog:o.guard with
 |none=>rw[hog]at hg;simp[nM]at hg
 |some jw=>
  obtain⟨j,w⟩:=jw
  rw[hog]at hg
  simp only[nM]at hg
  cases hj:(ops[j]?).bind (·.dst)with
  |none=>rw[hj]at hg;simp at hg
  |some d'=>
   rw[hj]at hg
   simp only[Option.some.injEq,Prod.mk.injEq]at hg
   unfold Ak Oper.looksAt
   rw[hog]
   simp only[hj]
   exact List.mem_append_right _ (by simp[hg.1])
theorem Agree.bB {o:Oper}{x:aF}(hx:qO P n ops o x){E E':Env}(h:Agree ops o E E')(H:aa):bB P E H x.op=bB P E' H x.op:=Ob (Fz hx.op).sel (h.bJ hx)
theorem Agree.j3 {o:Oper}{x:aF}(hx:qO P n ops o x){E E':Env}(h:Agree ops o E E'):j3 E x.op=j3 E' x.op:=Oc (h.bJ hx)
theorem Agree.Dq {o:Oper}{x:aF}(hx:qO P n ops o x){E E':Env}(h:Agree ops o E E')(H:aa)(K:Value→aa→Prop):Dq P C E H x.op K=Dq P C E' H x.op K:=Wm (Fz hx.op).sel (h.bJ hx)
end
end
section
open Classical in
noncomputable def ES (ops:Array Oper)(S:Nat→Prop)(T T0:Env):Env:=fun d=>if ∃i,S i∧fJ ops i=some d then T d else T0 d
open Classical in
noncomputable def EI (ops:Array Oper)(Dm:List Nat)(i:Nat)(T T0:Env):Env:=fun d=>if ∃j,waits Dm i j=true∧fJ ops j=some d then T d else T0 d
theorem sW {ops:Array Oper}{S:Nat→Prop}{T T0:Env}{d:Nat}(h: ∃i,S i∧fJ ops i=some d):ES ops S T T0 d=T d:=by unfold ES;rw[if_pos h]
theorem uZ {ops:Array Oper}{S:Nat→Prop}{T T0:Env}{d:Nat}(h: ¬ ∃i,S i∧fJ ops i=some d):ES ops S T T0 d=T0 d:=by unfold ES;rw[if_neg h]
theorem KJ {ops:Array Oper}{Dm:List Nat}{i:Nat}{T T0:Env}{d:Nat}(h: ∃j,waits Dm i j=true∧fJ ops j=some d):EI ops Dm i T T0 d=T d:=by unfold EI;rw[if_pos h]
theorem KM {ops:Array Oper}{Dm:List Nat}{i:Nat}{T T0:Env}{d:Nat}(h: ¬ ∃j,waits Dm i j=true∧fJ ops j=some d):EI ops Dm i T T0 d=T0 d:=by unfold EI;rw[if_neg h]
structure dR (P:Program)(n:Nat)(ops:Array Oper)(xs:List aF)(σ:List Nat):Prop where
 comp: ∀(i:Nat) (o:Oper),ops[i]? =some o→∃x,xs[i]? =some x∧qO P n ops o x
 len:xs.length=ops.size
 back:iH ops.toList 0=true
 qii:σ.length=ops.size
 nodup:σ.Nodup
 slt: ∀i ∈ σ,i<ops.size
 ord:Km xs (fF ops.toList []) [] σ=true
 tmp: ∀(i j:Nat) (oi oj:Oper) (d:Nat),i≠j→ops[i]? =some oi→ops[j]? =some oj→oi.dst=some d→oj.dst≠some d ∧
  (d ∈ Ak ops oj→waits (fF ops.toList []) j i=true∨(waits (fF ops.toList []) i j=true∧O6 xs j=false))
 own: ∀(i:Nat) (o:Oper) (d:Nat),ops[i]? =some o→o.dst=some d→d ∉ Ak ops o
theorem G9 {xs:List aF}{Dm:List Nat}: ∀(r pre q:List Nat),Km xs Dm pre (q++r)=true→Km xs Dm (pre++q) r=true
 |r,pre,[],h=>by simpa using h
 |r,pre,i::q,h=>by
  simp only[List.cons_append,Km,Bool.and_eq_true]at h
  have:=G9 r (pre++[i]) q h.2
  simpa using this
section
variable {P:Program} {C:bu} {n:Nat} {ops:Array Oper} {xs:List aF} {σ:List Nat}
theorem dR.head (h:dR P n ops xs σ){pre rest:List Nat}{i:Nat}(hs:σ=pre++i::rest){j:Nat}(hj:j ∈ pre):
 (qL xs j=true→waits (fF ops.toList []) i j=true)∧waits (fF ops.toList []) j i=false:=by
 have ho:=h.ord
 rw[hs]at ho
 have:=G9 (i::rest) [] pre ho
 simp only[List.nil_append,Km,Bool.and_eq_true]at this
 have h1:=List.all_eq_true.1 this.1 j hj
 simp only[Bool.and_eq_true,Bool.or_eq_true,Bool.not_eq_true']at h1
 refine⟨fun ha=> ?_,h1.2⟩
 rcases h1.1 with h2|h2
 ·rw[ha]at h2;cases h2
 ·exact h2
theorem dR.get (h:dR P n ops xs σ){i:Nat}(hi:i<ops.size): ∃o x,ops[i]? =some o∧xs[i]? =some x∧qO P n ops o x:=by
 obtain⟨x,h1,h2⟩:=h.comp i ops[i] (by simp[hi])
 exact⟨ops[i],x,by simp[hi],h1,h2⟩
theorem lJ {i d:Nat}(h:fJ ops i=some d): ∃o,ops[i]? =some o∧o.dst=some d:=by
 unfold fJ at h
 cases ho:ops[i]? with
 |none=>rw[ho]at h;cases h
 |some o=>rw[ho]at h;exact⟨o,rfl,h⟩
theorem pg {i:Nat}{o:Oper}(h:ops[i]? =some o):fJ ops i=o.dst:=by unfold fJ;rw[h];rfl
theorem dR.uniq (h:dR P n ops xs σ){i j d:Nat}(h1:fJ ops i=some d)(h2:fJ ops j=some d):i=j:=by
 obtain⟨oi,hi,hdi⟩:=lJ h1
 obtain⟨oj,hj,hdj⟩:=lJ h2
 by_cases he:i=j
 ·exact he
 ·exact absurd hdj (h.tmp i j oi oj d he hi hj hdi).1
def qdz (P:Program)(ops:Array Oper)(xs:List aF)(b0:Nat)(T T0:Env)(H:aa)(R:Ren)(sZ:Nat→Nat)(i:Nat):Prop:=
 ∀x,xs[i]? =some x→∃v,(∀d,x.dst=some d→T d=v)∧match bV (EI ops (fF ops.toList []) i T T0) x.guard with
  |false=>v=undef
  |true=>(x.op.kind = .rd∧bB P (EI ops (fF ops.toList []) i T T0) H x.op=some v) ∨
   (x.op.kind = .al∧∃obj mk,j3 (EI ops (fF ops.toList []) i T T0) x.op=some (obj,mk)∧v=mk (sZ i)∧H.get (sZ i)=some obj∧¬ R.dom (sZ i)∧sZ i<H.next∧b0≤sZ i)
def makes (ops:Array Oper)(xs:List aF)(T T0:Env)(i:Nat):Prop:=∃x,xs[i]? =some x∧x.op.kind = .al∧bV (EI ops (fF ops.toList []) i T T0) x.guard=true
structure Inv (D:List Deferred)(P:Program)(C:bu)(n:Nat)(ops:Array Oper)(xs:List aF)(σ:List Nat)(K:Env→aa→Prop)(T0:Env)(R0:Ren)(H0:aa)(w0:World)
 (pre rest:List Nat) (S:Nat→Prop) (sZ:Nat→Nat) (T:Env) (H:aa) (R:Ren) (a:Act) (w:World):Prop where
 sched:σ=pre++rest
 sub: ∀i,S i→i ∈ pre
 closed:Cl ops S
 acts: ∀i ∈ pre,qL xs i=true→S i
 run:bP P C (M8 xs (fF ops.toList []) pre rest) K T H
 zU:gT R H w
 tmps:iC n R (ES ops S T T0) a.tmps
 defers:a.defers=D
 old: ∀d,(∀i ∈ pre,fJ ops i≠some d)→T d=T0 d
 pend: ∀i ∈ pre,¬ S i→qdz P ops xs H0.next T T0 H R sZ i
 inj: ∀i ∈ pre,∀j ∈ pre,¬ S i→¬ S j→makes ops xs T T0 i→makes ops xs T T0 j→sZ i=sZ j→i=j
 ext:Ext R0 H0 w0 R H w
variable {K:Env→aa→Prop} {T0:Env} {R0:Ren} {H0:aa} {w0:World} {pre rest:List Nat} {S:Nat→Prop} {sZ:Nat→Nat} {T:Env} {H:aa} {R:Ren} {a:Act} {w:World}
theorem He (hR:dR P n ops xs σ)(hcl:Cl ops S){i:Nat}{o:Oper}(ho:ops[i]? =some o)(hr: ∀e ∈ o.after.toList,Region.binds .any e=true→S e.on)(hns: ¬ S i):
 Agree ops o (ES ops S T T0) (EI ops (fF ops.toList []) i T T0):=by
 intro d hd
 by_cases h: ∃j,waits (fF ops.toList []) i j=true∧fJ ops j=some d
 ·obtain⟨j,h1,h2⟩:=h
  rw[KJ ⟨j,h1,h2⟩,sW ⟨j,DN hR.back hcl i o j ho hr h1,h2⟩]
 ·rw[KM h,uZ]
  rintro⟨j,h1,h2⟩
  obtain⟨oj,hj,hdj⟩:=lJ h2
  have hji:j≠i:=fun e=>hns (e▸h1)
  rcases(hR.tmp j i oj o d hji hj ho hdj).2 hd with h3|⟨h3,_⟩
  ·exact h ⟨j,h3,h2⟩
  ·exact hns (Zp hR.back hcl hj h1 h3)
theorem KN (hR:dR P n ops xs σ){i:Nat}{r:List Nat}(hs:σ=pre++i::r)(hold: ∀d,(∀j ∈ pre,fJ ops j≠some d)→T d=T0 d){o:Oper}(ho:ops[i]? =some o):
 Agree ops o T (EI ops (fF ops.toList []) i T T0):=by
 intro d hd
 by_cases h: ∃j,waits (fF ops.toList []) i j=true∧fJ ops j=some d
 ·rw[KJ h]
 ·rw[KM h]
  refine hold d fun j hj h2=> ?_
  obtain⟨oj,hoj,hdj⟩:=lJ h2
  have hji:j≠i:=by
   rintro rfl
   have:=hR.nodup
   rw[hs]at this
   have:=(List.nodup_append.1 this).2.2 j hj j (by simp)
   exact this rfl
  rcases(hR.tmp j i oj o d hji hoj ho hdj).2 hd with h3|⟨h3,_⟩
  ·exact h ⟨j,h3,h2⟩
  ·rw[(hR.head hs hj).2]at h3;cases h3
theorem Pp (hR:dR P n ops xs σ){i j:Nat}(hw:waits (fF ops.toList []) i j=false){d:Option Nat}(hd:fJ ops j=d)(v:Value):
 EI ops (fF ops.toList []) i (T.put d v) T0=EI ops (fF ops.toList []) i T T0:=by
 funext e
 by_cases h: ∃k,waits (fF ops.toList []) i k=true∧fJ ops k=some e
 ·rw[KJ h,KJ h]
  cases d with
  |none=>rfl
  |some d=>
   show(if e=d then v else T e)=T e
   rw[if_neg]
   rintro rfl
   obtain⟨k,h1,h2⟩:=h
   rw[hR.uniq h2 hd]at h1
   rw[hw]at h1;cases h1
 ·rw[KM h,KM h]
theorem Zq {i:Nat}{d:Option Nat}(hd:fJ ops i=d)(hR:dR P n ops xs σ)(v:Value):ES ops (fun k=>S k∨k=i) (T.put d v) T0=(ES ops S T T0).put d v:=by
 funext e
 cases d with
 |none=>
  show ES ops (fun k=>S k∨k=i) T T0 e=ES ops S T T0 e
  by_cases h: ∃k,S k∧fJ ops k=some e
  ·obtain⟨k,h1,h2⟩:=h
   rw[sW ⟨k,h1,h2⟩,sW ⟨k,.inl h1,h2⟩]
  ·rw[uZ h,uZ]
   rintro⟨k,h1|rfl,h2⟩
   ·exact h ⟨k,h1,h2⟩
   ·rw[hd]at h2;cases h2
 |some d=>
  show ES ops (fun k=>S k∨k=i) (fun t=>if t=d then v else T t) T0 e=if e=d then v else ES ops S T T0 e
  by_cases he:e=d
  ·subst he
   rw[sW ⟨i,.inr rfl,hd⟩,if_pos rfl,if_pos rfl]
  ·rw[if_neg he]
   by_cases h: ∃k,S k∧fJ ops k=some e
   ·obtain⟨k,h1,h2⟩:=h
    rw[sW ⟨k,h1,h2⟩,sW ⟨k,.inl h1,h2⟩,if_neg he]
   ·rw[uZ h,uZ]
    rintro⟨k,h1|rfl,h2⟩
    ·exact h ⟨k,h1,h2⟩
    ·rw[hd]at h2;injection h2 with h2;exact he h2.symm
theorem qbQ {i:Nat}{d:Option Nat}(hd:fJ ops i=d)(hR:dR P n ops xs σ){v:Value}(hv: ∀k,d=some k→T k=v):ES ops (fun k=>S k∨k=i) T T0=(ES ops S T T0).put d v:=by
 have:T=T.put d v:=by
  funext e
  cases d with
  |none=>rfl
  |some d=>
   show T e=if e=d then v else T e
   by_cases he:e=d
   ·rw[if_pos he,he];exact hv d rfl
   ·rw[if_neg he]
 calc ES ops (fun k=>S k∨k=i) T T0=ES ops (fun k=>S k∨k=i) (T.put d v) T0:=by rw[←this]
  _=_:=Zq hd hR v
end
end
section
section
variable {D:List Deferred} {P:Program} {C:bu} {n:Nat} {ops:Array Oper} {xs:List aF} {σ:List Nat}
variable {K:Env→aa→Prop} {T0:Env} {R0:Ren} {H0:aa} {w0:World} {pre rest:List Nat} {S:Nat→Prop} {sZ:Nat→Nat} {T:Env} {H:aa} {R:Ren} {a:Act} {w:World}
theorem Zr (hb:iH ops.toList 0=true): ∀(i j:Nat) (o:Oper),ops[i]? =some o→waits (fF ops.toList []) i j=true→j<i:=by
 intro i
 induction i using Nat.strongRecOn with
 |_ i ih=>
  intro j o ho hw
  obtain⟨e,_,_,hlt,h4⟩:=Rf hb ho hw
  rcases h4 with rfl|h4
  ·exact hlt
  ·have hlt':e.on<ops.size:=Nat.lt_trans hlt (Array.getElem?_eq_some_iff.1 ho).1
   exact Nat.lt_trans (ih e.on hlt j ops[e.on] (by simp[hlt']) h4) hlt
theorem TI (hb:iH ops.toList 0=true){i:Nat}{o:Oper}(ho:ops[i]? =some o):waits (fF ops.toList []) i i=false:=by
 cases h:waits (fF ops.toList []) i i with
 |false=>rfl
 |true=>exact absurd (Zr hb i i o ho h) (Nat.lt_irrefl _)
theorem nO (hR:dR P n ops xs σ){i:Nat}{r:List Nat}(hs:σ=pre++i::r):i ∉ pre:=by
 intro hi
 have:=hR.nodup
 rw[hs]at this
 exact(List.nodup_append.1 this).2.2 i hi i (by simp) rfl
theorem Au {T:Env}{d:Option Nat}{v:Value}{e:Nat}(h:d≠some e):T.put d v e=T e:=by
 cases d with
 |none=>rfl
 |some d=>
  show(if e=d then v else T e)=T e
  rw[if_neg (fun he=>h (by rw[he]))]
theorem put_eq {T:Env}{e:Nat}{v:Value}:T.put (some e) v e=v:=by
 show(if e=e then v else T e)=v
 rw[if_pos rfl]
theorem qbR (hR:dR P n ops xs σ){i:Nat}(hns: ¬ S i){d:Option Nat}(hd:fJ ops i=d)(v:Value):ES ops S (T.put d v) T0=ES ops S T T0:=by
 funext e
 by_cases h: ∃k,S k∧fJ ops k=some e
 ·rw[sW h,sW h]
  refine Au fun he=> ?_
  obtain⟨k,h1,h2⟩:=h
  rw[he]at hd
  exact hns (hR.uniq hd h2▸h1)
 ·rw[uZ h,uZ h]
theorem KQ (hR:dR P n ops xs σ){i:Nat}{r:List Nat}{o:Oper}{x:aF}{v:Value}{H1:aa}{DR:Nat→Nat}
 (hI:Inv D P C n ops xs σ K T0 R0 H0 w0 pre (i::r) S sZ T H R a w) (ho:ops[i]? =some o) (hx:xs[i]? =some x) (hco:qO P n ops o x) (hna:qL xs i=false)
 (hsub:H.sub H1) (hnext:H.next≤H1.next) (Nj:gT R H1 w) (pR:Ext R0 H0 w0 R H1 w) (hrun:bP P C (M8 xs (fF ops.toList []) (pre++[i]) r) K (T.put x.dst v) H1)
 (Zt: ∀j ∈ pre,DR j=sZ j) (qdg:makes ops xs (T.put x.dst v) T0 i→DR i=H.next)
 (hp:qdz P ops xs H0.next (T.put x.dst v) T0 H1 R DR i):Inv D P C n ops xs σ K T0 R0 H0 w0 (pre++[i]) r S DR (T.put x.dst v) H1 R a w:=by
 have hni:=nO hR hI.sched
 have hns: ¬ S i:=fun h=>hni (hI.sub i h)
 have hdi:fJ ops i=x.dst:=by rw[pg ho,hco.dst]
 have hne: ∀j ∈ pre,j≠i:=fun j hj e=>hni (e▸hj)
 have Vf: ∀j ∈ pre,EI ops (fF ops.toList []) j (T.put x.dst v) T0=EI ops (fF ops.toList []) j T T0:=fun j hj=>Pp hR (hR.head hI.sched hj).2 hdi v
 have hmk: ∀j ∈ pre,makes ops xs (T.put x.dst v) T0 j→makes ops xs T T0 j:=by
  rintro j hj ⟨y,h1,h2,h3⟩
  rw[Vf j hj]at h3
  exact⟨y,h1,h2,h3⟩
 have hlt: ∀j ∈ pre,¬ S j→makes ops xs T T0 j→sZ j<H.next:=by
  rintro j hj hsj ⟨y,h1,h2,h3⟩
  obtain⟨u,_,h4⟩:=hI.pend j hj hsj y h1
  rw[h3]at h4
  rcases h4 with⟨h5,_⟩|⟨_,_,_,_,_,_,_,h6⟩
  ·rw[h2]at h5;cases h5
  ·exact h6.1
 refine⟨by rw[hI.sched];simp,fun j hj=>List.mem_append_left _ (hI.sub j hj),hI.closed,?_,hrun,Nj,?_,hI.defers,?_,?_,?_,pR⟩
 ·intro j hj ha
  rcases List.mem_append.1 hj with h1|h1
  ·exact hI.acts j h1 ha
  ·simp at h1;subst h1;rw[hna]at ha;cases ha
 ·rw[qbR hR hns hdi];exact hI.tmps
 ·intro d hd
  have:x.dst≠some d:=by rw[←hdi];exact hd i (by simp)
  rw[Au this]
  exact hI.old d fun j hj=>hd j (List.mem_append_left _ hj)
 ·intro j hj hsj
  rcases List.mem_append.1 hj with h1|h1
  ·intro y hy
   obtain⟨u,h2,h3⟩:=hI.pend j h1 hsj y hy
   refine⟨u,fun d hd=> ?_,?_⟩
   ·rw[Au]
    ·exact h2 d hd
    ·intro he
     obtain⟨oj,yj,hoj,hyj,hcj⟩:=hR.get (hR.slt j (by rw[hI.sched];exact List.mem_append_left _ h1))
     have hyy:yj=y:=by rw[hy]at hyj;exact(Option.some.inj hyj).symm
     subst hyy
     have h4:fJ ops j=some d:=by rw[pg hoj,←hcj.dst];exact hd
     rw[←hdi]at he
     exact hne j h1 (hR.uniq h4 he)
   ·rw[Vf j h1,Zt j h1]
    cases hw:bV (EI ops (fF ops.toList []) j T T0) y.guard with
    |false=>rw[hw]at h3;exact h3
    |true=>
     rw[hw]at h3
     rcases h3 with⟨h5,h6⟩|⟨h5,obj,mk,h6,h7,h8,h9,h10⟩
     ·exact .inl ⟨h5,Zo hsub h6⟩
     ·exact .inr ⟨h5,obj,mk,h6,h7,hsub _ _ h8,h9,Nat.lt_of_lt_of_le h10.1 hnext,h10.2⟩
  ·simp at h1;subst h1;exact hp
 ·intro j hj k hk hsj hsk hmj hmk' he
  rcases List.mem_append.1 hj with h1|h1 <;> rcases List.mem_append.1 hk with h2|h2
  ·rw[Zt j h1,Zt k h2]at he
   exact hI.inj j h1 k h2 hsj hsk (hmk j h1 hmj) (hmk k h2 hmk') he
  ·simp at h2;subst h2
   rw[Zt j h1,qdg hmk']at he
   have:=hlt j h1 hsj (hmk j h1 hmj)
   omega
  ·simp at h1;subst h1
   rw[Zt k h2,qdg hmj]at he
   have:=hlt k h2 hsk (hmk k h2 hmk')
   omega
  ·simp at h1 h2;rw[h1,h2]
theorem qij (hR:dR P n ops xs σ){i:Nat}{r:List Nat}(hI:Inv D P C n ops xs σ K T0 R0 H0 w0 pre (i::r) S sZ T H R a w)(hna:qL xs i=false):
 ∃T1 H1 qdA,Inv D P C n ops xs σ K T0 R0 H0 w0 (pre++[i]) r S qdA T1 H1 R a w:=by
 obtain⟨o,x,ho,hx,hco⟩:=hR.get (hR.slt i (by rw[hI.sched];simp))
 have KR:acts x=false:=by unfold qL at hna;rw[hx]at hna;exact hna
 have hrun:=hI.run
 simp only[M8,hx,Fw,KR,Bool.false_eq_true,if_false,bP]at hrun
 have hag:=KN (T:=T) (T0:=T0) hR hI.sched hI.old ho
 have hdi:fJ ops i=x.dst:=by rw[pg ho,hco.dst]
 have Vf: ∀v,EI ops (fF ops.toList []) i (T.put x.dst v) T0=EI ops (fF ops.toList []) i T T0:=fun v=>Pp hR (TI hR.back ho) hdi v
 have hput: ∀v d,x.dst=some d→T.put x.dst v d=v:=fun v d hd=>by rw[hd];exact put_eq
 have Zu: ∀(v:Value) (H1:aa) (DR:Nat→Nat),(match bV T x.guard with
  |false=>v=undef
  |true=>(x.op.kind = .rd∧bB P T H1 x.op=some v)∨(x.op.kind = .al∧∃obj mk,j3 T x.op=some (obj,mk)∧v=mk (DR i)∧H1.get (DR i)=some obj∧¬ R.dom (DR i)∧DR i<H1.next∧H0.next≤DR i)) →
  qdz P ops xs H0.next (T.put x.dst v) T0 H1 R DR i:=by
  intro v H1 DR h y hy
  rw[hx]at hy
  injection hy with hy
  subst hy
  refine⟨v,hput v,?_⟩
  rw[Vf v,←hag.guard hco,←hag.bB hco,←hag.j3 hco]
  exact h
 cases hw:bV T x.guard with
 |false=>
  rw[hw]at hrun
  refine⟨T.put x.dst undef,H,sZ,KQ hR hI ho hx hco hna (fun _ _ h=>h) (Nat.le_refl _) hI.zU hI.ext hrun (fun _ _=>rfl) ?_ (Zu _ _ _ (by rw[hw]))⟩
  rintro⟨y,h1,h2,h3⟩
  rw[hx]at h1;injection h1 with h1;subst h1
  rw[Vf,←hag.guard hco,hw]at h3;cases h3
 |true=>
  rw[hw]at hrun
  unfold Dq at hrun
  cases hk:x.op.kind with
  |rd=>
   rw[hk]at hrun
   obtain⟨v,h1,h2⟩:=hrun
   refine⟨T.put x.dst v,H,sZ,KQ hR hI ho hx hco hna (fun _ _ h=>h) (Nat.le_refl _) hI.zU hI.ext h2 (fun _ _=>rfl) ?_ (Zu _ _ _ (by rw[hw];exact .inl ⟨hk,h1⟩))⟩
   rintro⟨y,h3,h4,_⟩
   rw[hx]at h3;injection h3 with h3;subst h3
   rw[hk]at h4;cases h4
  |al=>
   rw[hk]at hrun
   obtain⟨⟨obj,mk⟩,h1,h2⟩:=hrun
   have hsub:H.sub (H.alloc obj):=by
    intro b q hb
    have hlt:b<H.next:=by
     rcases Nat.lt_or_ge b H.next with h|h
     ·exact h
     ·rw[hI.zU.wf b h]at hb;cases hb
    rw[fM H obj hlt];exact hb
   have hnd: ¬ R.dom H.next:=fun h=>Nat.lt_irrefl _ (hI.zU.lt _ h)
   have pR:Ext R0 H0 w0 R (H.alloc obj) w:=by
    refine hI.ext.trans ⟨R.le_refl,Nat.le_succ _,fun b hb=>.inl hb,fun b hb _=>fM H obj hb,fun b cs hg hb=>by rw[fM H obj hb];exact hg,fun _ _ _=>rfl,fun b hb hl=>.inr ⟨b,hb,?_,rfl⟩,Nat.le_refl _,rfl,rfl,rfl⟩
    unfold bL at hl ⊢
    rw[fM H obj (hI.zU.lt b hb)]at hl
    exact hl
   have hni:=nO hR hI.sched
   refine⟨T.put x.dst (mk H.next),H.alloc obj,fun j=>if j=i then H.next else sZ j,KQ hR hI ho hx hco hna hsub (Nat.le_succ _) (hI.zU.yG obj) pR h2 (fun j hj=> ?_) (fun _=>by simp)
    (Zu _ _ _ (by rw[hw];exact .inr ⟨hk,obj,mk,h1,by simp,by simp[mh],by simpa using hnd,by simp[aa.alloc],by simpa using hI.ext.next⟩))⟩
   rw[if_neg (fun e:j=i=>hni (e▸hj))]
  |ac=>unfold acts at KR;rw[hk]at KR;simp at KR
  |ca=>unfold acts at KR;rw[hk]at KR;simp at KR
theorem advance (hR:dR P n ops xs σ): ∀(rest pre:List Nat) (sZ:Nat→Nat) (T:Env) (H:aa),Inv D P C n ops xs σ K T0 R0 H0 w0 pre rest S sZ T H R a w →
 ∃pre' rest' DR T' H',Inv D P C n ops xs σ K T0 R0 H0 w0 pre' rest' S DR T' H' R a w∧∀i r,rest'=i::r→qL xs i=true
 |[],pre,sZ,T,H,hI=>⟨pre,[],sZ,T,H,hI,by simp⟩
 |i::r,pre,sZ,T,H,hI=>by
  cases ha:qL xs i with
  |true=>exact⟨pre,i::r,sZ,T,H,hI,fun j q h=>by injection h with h1 _;subst h1;exact ha⟩
  |false=>
   obtain⟨T1,H1,qdA,h1⟩:=qij hR hI ha
   exact advance hR r (pre++[i]) qdA T1 H1 h1
end
end
section
section
variable {D:List Deferred} {P:Program} {C:bu} {n:Nat} {ops:Array Oper} {xs:List aF} {σ:List Nat}
variable {K:Env→aa→Prop} {T0:Env} {R0:Ren} {H0:aa} {w0:World} {pre rest:List Nat} {S:Nat→Prop} {sZ:Nat→Nat} {T:Env} {H:aa} {R:Ren} {a:Act} {w:World}
theorem Ext.realize {s:Sem Next}{r:Nat}{y v':Value}{w':World}{R':Ren}(h:Ext R0 H0 w0 R H w)(hm:Made P R H w s r y v' w' R')(hr:H0.next≤r):Ext R0 H0 w0 R' H w':=by
 refine⟨h.le.trans hm.le,h.next,fun b hb=> ?_,h.far,h.ro,fun k hk hn=> ?_,fun b hb hl=> ?_,Nat.le_trans h.size (by rw[hm.one.size];omega),hm.one.os.trans h.os,hm.one.tape.trans h.tape,hm.one.output.trans h.output⟩
 ·rcases(hm.dom b).1 hb with h1|h1
  ·exact h.new b h1
  ·exact .inr (h1▸hr)
 ·rw[hm.one.old k (Nat.lt_of_lt_of_le hk h.size)];exact h.frame k hk hn
 ·rcases(hm.dom b).1 hb with h1|h1
  ·rw[hm.le.blk b h1];exact h.own b h1 hl
  ·subst h1;exact .inl (by rw[hm.blk];exact h.size)
theorem FB (hR:dR P n ops xs σ){i:Nat}{o:Oper}{x:aF}(hI:Inv D P C n ops xs σ K T0 R0 H0 w0 pre rest S sZ T H R a w)(hi:i ∈ pre)(hns: ¬ S i)(ho:ops[i]? =some o)(hx:xs[i]? =some x)
 (hco:qO P n ops o x) (hr: ∀e ∈ o.after.toList,Region.binds .any e=true→S e.on) {v v':Value} {R':Ren} {w':World} (hv: ∀d,x.dst=some d→T d=v) (hvr:VR R' v v') (Nj:gT R' H w')
 (hle:R.le R') (pR:Ext R0 H0 w0 R' H w') (hdom: ∀b,R'.dom b→R.dom b∨(b=sZ i∧makes ops xs T T0 i)):Inv D P C n ops xs σ K T0 R0 H0 w0 pre rest (fun k=>S k∨k=i) sZ T H R' (a.put o.dst v') w':=by
 have hdi:fJ ops i=x.dst:=by rw[pg ho,hco.dst]
 refine⟨hI.sched,?_,?_,fun j hj ha=>.inl (hI.acts j hj ha),hI.run,Nj,?_,by rw[put_defers];exact hI.defers,hI.old,?_,?_,pR⟩
 ·rintro j (h|rfl)
  ·exact hI.sub j h
  ·exact hi
 ·rintro j oj hj (h|rfl) e he hb
  ·exact .inl (hI.closed j oj hj h e he hb)
  ·have:oj=o:=by rw[ho]at hj;exact(Option.some.inj hj).symm
   subst this
   exact .inl (hr e he hb)
 ·rw[qbQ hdi hR hv,←hco.dst]
  exact(hI.tmps.mono hle).put (fun d hd=>hco.lt d (by rw[←hco.dst];exact hd)) hvr
 ·intro j hj hsj y hy
  have Zv: ¬ S j:=fun h=>hsj (.inl h)
  have hji:j≠i:=fun h=>hsj (.inr h)
  obtain⟨u,h1,h2⟩:=hI.pend j hj Zv y hy
  refine⟨u,h1,?_⟩
  cases hw:bV (EI ops (fF ops.toList []) j T T0) y.guard with
  |false=>rw[hw]at h2;exact h2
  |true=>
   rw[hw]at h2
   rcases h2 with h2|⟨h5,obj,mk,h6,h7,h8,h9,h10⟩
   ·exact .inl h2
   ·refine .inr ⟨h5,obj,mk,h6,h7,h8,fun hd=> ?_,h10⟩
    rcases hdom _ hd with h11|⟨h11,h12⟩
    ·exact h9 h11
    ·exact hji (hI.inj j hj i hi Zv hns ⟨y,hy,h5,hw⟩ h12 h11)
 ·intro j hj k hk hsj hsk hmj hmk he
  exact hI.inj j hj k hk (fun h=>hsj (.inl h)) (fun h=>hsk (.inl h)) hmj hmk he
theorem Wn (hR:dR P n ops xs σ){i:Nat}{o:Oper}(hI:Inv D P C n ops xs σ K T0 R0 H0 w0 pre rest S sZ T H R a w)(hi:i ∈ pre)(hns: ¬ S i)(ho:ops[i]? =some o)
 (hr: ∀e ∈ o.after.toList,Region.binds .any e=true→S e.on) {next:Act→World→Prop} {Q:Exit→Act→World→Prop}
 (hn: ∀R' a' w',Inv D P C n ops xs σ K T0 R0 H0 w0 pre rest (fun k=>S k∨k=i) sZ T H R' a' w'→next a' w'):wpOp P ops Q i next a w:=by
 obtain⟨o',x,ho',hx,hco⟩:=hR.get (Array.getElem?_eq_some_iff.1 ho).1
 have:o'=o:=by rw[ho]at ho';exact(Option.some.inj ho').symm
 subst this
 have hag:=He (T:=T) (T0:=T0) hR hI.closed ho hr hns
 obtain⟨v,hv,h2⟩:=hI.pend i hi hns x hx
 unfold wpOp
 simp only[ho]
 rw[Aq hI.tmps hco.guard hco.glt,hag.guard hco]
 cases hw:bV (EI ops (fF ops.toList []) i T T0) x.guard with
 |false=>
  rw[hw]at h2
  subst h2
  simp only[Bool.false_eq_true,if_false]
  exact hn R _ w (FB hR hI hi hns ho hx hco hr hv (VR.undef R) hI.zU R.le_refl hI.ext fun b hb=>.inl hb)
 |true=>
  rw[hw]at h2
  simp only[if_true]
  refine .inl ?_
  unfold Oper.wp
  rcases h2 with⟨hk,h3⟩|⟨hk,obj,mk,h3,h4,h5,h6,h7,h10⟩
  ·rw[←hag.bB hco]at h3
   obtain⟨v',h8,h9⟩:=Zi hI.zU hI.tmps hco.op hk h3
   rw[h8]
   exact hn R _ w (FB hR hI hi hns ho hx hco hr hv h9 hI.zU R.le_refl hI.ext fun b hb=>.inl hb)
  ·rw[←hag.j3 hco]at h3
   obtain⟨v',w',R',hm⟩:=Zk hI.zU hI.tmps hco.op h3 h7 h6 h5
   rw[hm.run]
   subst h4
   refine hn R' _ w' (FB hR hI hi hns ho hx hco hr hv hm.val hm.zU hm.le (hI.ext.realize hm h10) fun b hb=> ?_)
   rcases(hm.dom b).1 hb with h|h
   ·exact .inl h
   ·exact .inr ⟨h,x,hx,hk,hw⟩
theorem DT {T:Env}{H:aa}: ∀{st:List aF},dh P T H st→∀y ∈ st,bE P T H y
 |[],_,y,hy=>by simp at hy
 |[x],h,y,hy=>by simp at hy;subst hy;exact h
 |x::z::r,h,y,hy=>by
  rcases List.mem_cons.1 hy with rfl|hy
  ·exact h.1
  ·exact DT (st:=z::r) h.2 y hy
theorem Rh (hR:dR P n ops xs σ){e:Nat}{r:List Nat}{o:Oper}{x:aF}(hI:Inv D P C n ops xs σ K T0 R0 H0 w0 pre (e::r) S sZ T H R a w)(ho:ops[e]? =some o)(hx:xs[e]? =some x)
 (hco:qO P n ops o x) (hr: ∀q ∈ o.after.toList,Region.binds .any q=true→S q.on) {v v':Value} {R':Ren} {H':aa} {w':World} (hvr:VR R' v v') (Nj:gT R' H' w')
 (pR:Ext R H w R' H' w') (hrun:bP P C (M8 xs (fF ops.toList []) (pre++[e]) r) K (T.put x.dst v) H')
 (hstill: ∀j ∈ pre,¬ S j→∀y u,xs[j]? =some y→bV (EI ops (fF ops.toList []) j T T0) y.guard=true→y.op.kind = .rd→bB P (EI ops (fF ops.toList []) j T T0) H y.op=some u→(∀d,y.dst=some d→T d=u) →
   ∃u',bB P (EI ops (fF ops.toList []) j T T0) H' y.op=some u'∧∀d,y.dst=some d→T d=u'):
 Inv D P C n ops xs σ K T0 R0 H0 w0 (pre++[e]) r (fun k=>S k∨k=e) sZ (T.put x.dst v) H' R' (a.put o.dst v') w':=by
 have hni:=nO hR hI.sched
 have hdi:fJ ops e=x.dst:=by rw[pg ho,hco.dst]
 have hne: ∀j ∈ pre,j≠e:=fun j hj h=>hni (h▸hj)
 have Vf: ∀j ∈ pre,EI ops (fF ops.toList []) j (T.put x.dst v) T0=EI ops (fF ops.toList []) j T T0:=fun j hj=>Pp hR (hR.head hI.sched hj).2 hdi v
 have hpre: ∀j,j ∈ pre++[e]→¬ (S j∨j=e)→j ∈ pre∧¬ S j:=fun j hj hs=>by
  rcases List.mem_append.1 hj with h|h
  ·exact⟨h,fun h'=>hs (.inl h')⟩
  ·simp at h;exact absurd (.inr h) hs
 have hmk: ∀j ∈ pre,makes ops xs (T.put x.dst v) T0 j→makes ops xs T T0 j:=by
  rintro j hj ⟨y,h1,h2,h3⟩
  rw[Vf j hj]at h3
  exact⟨y,h1,h2,h3⟩
 refine⟨by rw[hI.sched];simp,?_,?_,?_,hrun,Nj,?_,by rw[put_defers];exact hI.defers,?_,?_,?_,hI.ext.trans pR⟩
 ·rintro j (h|rfl)
  ·exact List.mem_append_left _ (hI.sub j h)
  ·simp
 ·rintro j oj hj (h|rfl) q hq hb
  ·exact .inl (hI.closed j oj hj h q hq hb)
  ·have:oj=o:=by rw[ho]at hj;exact(Option.some.inj hj).symm
   subst this
   exact .inl (hr q hq hb)
 ·intro j hj ha
  rcases List.mem_append.1 hj with h|h
  ·exact .inl (hI.acts j h ha)
  ·simp at h;exact .inr h
 ·rw[Zq hdi hR,←hco.dst]
  exact(hI.tmps.mono pR.le).put (fun d hd=>hco.lt d (by rw[←hco.dst];exact hd)) hvr
 ·intro d hd
  have:x.dst≠some d:=by rw[←hdi];exact hd e (by simp)
  rw[Au this]
  exact hI.old d fun j hj=>hd j (List.mem_append_left _ hj)
 ·intro j hj hsj y hy
  obtain⟨h1,Zv⟩:=hpre j hj hsj
  obtain⟨u,h2,h3⟩:=hI.pend j h1 Zv y hy
  have hd': ∀u,(∀d,y.dst=some d→T d=u)→∀d,y.dst=some d→T.put x.dst v d=u:=by
   intro u hu d hd
   rw[Au]
   ·exact hu d hd
   ·intro he
    obtain⟨oj,yj,hoj,hyj,hcj⟩:=hR.get (hR.slt j (by rw[hI.sched];exact List.mem_append_left _ h1))
    have hyy:yj=y:=by rw[hy]at hyj;exact(Option.some.inj hyj).symm
    subst hyy
    have h4:fJ ops j=some d:=by rw[pg hoj,←hcj.dst];exact hd
    rw[←hdi]at he
    exact hne j h1 (hR.uniq h4 he)
  cases hw:bV (EI ops (fF ops.toList []) j T T0) y.guard with
  |false=>
   rw[hw]at h3
   exact⟨u,hd' u h2,by rw[Vf j h1,hw];exact h3⟩
  |true=>
   rw[hw]at h3
   rcases h3 with⟨h5,h6⟩|⟨h5,obj,mk,h6,h7,h8,h9,h10,h11⟩
   ·obtain⟨u',h12,h13⟩:=hstill j h1 Zv y u hy hw h5 h6 h2
    exact⟨u',hd' u' h13,by rw[Vf j h1,hw];exact .inl ⟨h5,h12⟩⟩
   ·refine⟨u,hd' u h2,?_⟩
    rw[Vf j h1,hw]
    refine .inr ⟨h5,obj,mk,h6,h7,by rw[pR.far _ h10 h9];exact h8,fun hd=> ?_,Nat.lt_of_lt_of_le h10 pR.next,h11⟩
    rcases pR.new _ hd with h12|h12
    ·exact h9 h12
    ·omega
 ·intro j hj k hk hsj hsk hmj hmk' he
  obtain⟨h1,h1'⟩:=hpre j hj hsj
  obtain⟨h2,h2'⟩:=hpre k hk hsk
  exact hI.inj j h1 k h2 h1' h2' (hmk j h1 hmj) (hmk k h2 hmk') he
theorem Zw (hC:jh P C)(hR:dR P n ops xs σ){e:Nat}{r:List Nat}{o:Oper}(hI:Inv D P C n ops xs σ K T0 R0 H0 w0 pre (e::r) S sZ T H R a w)(ho:ops[e]? =some o)(hact:qL xs e=true)
 (hr: ∀q ∈ o.after.toList,Region.binds .any q=true→S q.on) {next:Act→World→Prop} {Q:Exit→Act→World→Prop}
 (hn: ∀T' H' R' a' w',Inv D P C n ops xs σ K T0 R0 H0 w0 (pre++[e]) r (fun k=>S k∨k=e) sZ T' H' R' a' w'→next a' w'):wpOp P ops Q e next a w:=by
 obtain⟨o',x,ho',hx,hco⟩:=hR.get (Array.getElem?_eq_some_iff.1 ho).1
 have:o'=o:=by rw[ho]at ho';exact(Option.some.inj ho').symm
 subst this
 have hni:=nO hR hI.sched
 have hns: ¬ S e:=fun h=>hni (hI.sub e h)
 have hag:=He (T:=T) (T0:=T0) hR hI.closed ho hr hns
 have qik:=KN (T:=T) (T0:=T0) hR hI.sched hI.old ho
 have qe1:Agree ops o' T (ES ops S T T0):=fun d hd=>(qik d hd).trans (hag d hd).symm
 have hxa:acts x=true:=by unfold qL at hact;rw[hx]at hact;exact hact
 have hrun:=hI.run
 simp only[M8,hx]at hrun
 unfold wpOp
 simp only[ho]
 rw[Aq hI.tmps hco.guard hco.glt,←qe1.guard hco]
 simp only[bP]at hrun
 cases hw:bV T x.guard with
 |false=>
  rw[hw]at hrun
  simp only[Bool.false_eq_true,if_false]
  exact hn _ _ R _ w (Rh hR hI ho hx hco hr (VR.undef R) hI.zU (Ext.refl _ _ _) hrun fun j hj hsj y u hy hw' hk hi hd=>⟨u,hi,hd⟩)
 |true=>
  rw[hw]at hrun
  simp only[if_true]
  simp only[]at hrun
  rw[qe1.Dq hco]at hrun
  refine .inl (TE hC hI.zU hI.tmps hco.op hrun fun v v' R' H' w' hk hvr Nj pR=> ?_)
  have hk2:(∀y ∈ Fw xs (fF ops.toList []) pre e,bE P (T.put x.dst v) H' y)∧bP P C (M8 xs (fF ops.toList []) (pre++[e]) r) K (T.put x.dst v) H':=by
   generalize Fw xs (fF ops.toList []) pre e=st at hk
   cases st with
   |nil=>exact⟨by simp,hk⟩
   |cons y r=>exact⟨DT hk.1,hk.2⟩
  refine hn _ H' R' _ w' (Rh hR hI ho hx hco hr hvr Nj pR hk2.2 ?_)
  intro j hj hsj y u hy hwj hkj hij hdj
  by_cases hl:y.op.looks=true
  ·have hnw:waits (fF ops.toList []) e j=false:=by
    cases h:waits (fF ops.toList []) e j with
    |false=>rfl
    |true=>exact absurd (DN hR.back hI.closed e o' j ho hr h) hsj
   have hmem:y ∈ Fw xs (fF ops.toList []) pre e:=by
    simp only[Fw,hx,hxa,if_true]
    refine List.mem_filterMap.2 ⟨j,hj,?_⟩
    simp only[hy,Kl,hl,hnw,Bool.not_false,Bool.and_self,if_true]
   have hst:=hk2.1 y hmem
   obtain⟨oj,yj,hoj,hyj,hcj⟩:=hR.get (hR.slt j (by rw[hI.sched];exact List.mem_append_left _ hj))
   have hyy:yj=y:=by rw[hy]at hyj;exact(Option.some.inj hyj).symm
   subst hyy
   have hje:j≠e:=fun h=>hni (h▸hj)
   have hdi:fJ ops e=x.dst:=by rw[pg ho,hco.dst]
   have qil:O6 xs j=true:=by unfold O6;rw[hy];exact hl
   have qdB:Agree ops oj (T.put x.dst v) (EI ops (fF ops.toList []) j (T.put x.dst v) T0):=by
    intro d hd
    by_cases h: ∃k,waits (fF ops.toList []) j k=true∧fJ ops k=some d
    ·rw[KJ h]
    ·rw[KM h]
     have qe2: ∀k,fJ ops k≠some d:=by
      intro k hk'
      obtain⟨ok,hok,hdk⟩:=lJ hk'
      by_cases qe3:k=j
      ·subst qe3
       have:ok=oj:=by rw[hok]at hoj;exact Option.some.inj hoj
       subst this
       exact hR.own k ok d hok hdk hd
      ·rcases(hR.tmp k j ok oj d qe3 hok hoj hdk).2 hd with h1|⟨_,h1⟩
       ·exact h ⟨k,h1,hk'⟩
       ·rw[qil]at h1;cases h1
     rw[Au (by rw[←hdi];exact qe2 e)]
     exact hI.old d fun k _=>qe2 k
   have Vf:EI ops (fF ops.toList []) j (T.put x.dst v) T0=EI ops (fF ops.toList []) j T T0:=Pp hR (hR.head hI.sched hj).2 hdi v
   unfold bE at hst
   rw[qdB.guard hcj,Vf,hwj]at hst
   cases Ng:yj.dst with
   |some d=>
    rw[Ng]at hst
    simp only[]at hst
    rw[qdB.bB hcj,Vf]at hst
    refine⟨_,hst,fun d' hd'=> ?_⟩
    injection hd' with hd'
    subst hd'
    rw[Au]
    intro he
    have h4:fJ ops j=some d:=by rw[pg hoj,←hcj.dst];exact Ng
    rw[←hdi]at he
    exact hje (hR.uniq h4 he)
   |none=>
    rw[Ng]at hst
    simp only[]at hst
    rw[qdB.bB hcj,Vf]at hst
    obtain⟨u',hu'⟩:=Option.isSome_iff_exists.1 hst
    exact⟨u',hu',by simp⟩
  ·exact⟨u,by rw[Po (H':=H) (by simpa using hl)];exact hij,hdj⟩
end
end
section
theorem FC: ∀(n:Nat) (l:List Nat),l.Nodup→(∀i ∈ l,i<n)→l.length≤n
 |0,l,_,h=>by
  cases l with
  |nil=>simp
  |cons a l=>exact absurd (h a (by simp)) (by omega)
 |n+1,l,hd,h=>by
  have h1:(l.erase n).length≤n:=by
   refine FC n (l.erase n) (hd.erase n) fun i hi=> ?_
   have h2:=h i (List.mem_of_mem_erase hi)
   have h3:i≠n:=by
    rintro rfl
    exact(hd.mem_erase_iff.1 hi).1 rfl
   omega
  have h2:=List.length_erase (a:=n) (l:=l)
  split at h2 <;> omega
section
variable {D:List Deferred} {P:Program} {C:bu} {n:Nat} {ops:Array Oper} {xs:List aF} {σ:List Nat}
theorem dR.mem (h:dR P n ops xs σ){i:Nat}(hi:i<ops.size):i ∈ σ:=by
 by_cases hm:i ∈ σ
 ·exact hm
 ·have:=FC ops.size (i::σ) (List.nodup_cons.2 ⟨hm,h.nodup⟩) (by
   intro j hj
   rcases List.mem_cons.1 hj with rfl|hj
   ·exact hi
   ·exact h.slt j hj)
  rw[List.length_cons,h.qii]at this
  omega
theorem dR.of {ops:Array Oper}(hc:iG P n ops ops.toList=some xs)(h:Tq ops xs (fF ops.toList []) σ=true):dR P n ops xs σ:=by
 obtain⟨h1,h2⟩:=zY hc
 unfold Tq at h
 simp only[Bool.and_eq_true,decide_eq_true_eq]at h
 obtain⟨⟨⟨⟨⟨⟨hb,hl⟩,hnd⟩,hlt⟩,ho⟩,ht⟩,hw⟩:=h
 refine⟨?_,by simpa using h1,hb,hl,hnd,fun i hi=>by simpa using List.all_eq_true.1 hlt i hi,ho,?_,?_⟩
 ·intro i o hi
  obtain⟨x,hx,hco⟩:=h2 i o (by simpa using hi)
  exact⟨x,hx,Ni hco⟩
 ·intro i j oi oj d hne hi hj hd
  have hil:=(Array.getElem?_eq_some_iff.1 hi).1
  have hjl:=(Array.getElem?_eq_some_iff.1 hj).1
  unfold qde at ht
  have h3:=List.all_eq_true.1 (List.all_eq_true.1 ht i (List.mem_range.2 hil)) j (List.mem_range.2 hjl)
  rw[hi,hj]at h3
  simp only[hd,Bool.or_eq_true,Bool.and_eq_true,beq_iff_eq,hne,false_or,bne_iff_ne,Bool.not_eq_true']at h3
  refine⟨h3.1,fun hr=> ?_⟩
  rcases h3.2 with (h4|h4)|h4
  ·rw[List.contains_eq_mem]at h4
   simp at h4
   exact absurd hr h4
  ·exact .inl h4
  ·exact .inr h4
 ·intro i o d hi hd hr
  unfold qdf at hw
  have hm:o ∈ ops.toList:=by
   have:=Array.getElem?_eq_some_iff.1 hi
   obtain⟨hil,rfl⟩:=this
   simp
  have h3:=List.all_eq_true.1 hw o hm
  simp only[hd,Bool.not_eq_true']at h3
  rw[List.contains_eq_mem]at h3
  simp at h3
  exact h3 hr
variable {K:Env→aa→Prop} {T0:Env} {R0:Ren} {H0:aa} {w0:World}
theorem zZ: ∀{os:List Oper} {k i:Nat} {o:Oper},iH os k=true→os[i]? =some o→∀e ∈ o.after.toList,Region.binds .any e=true→e.on<k+i
 |[],k,i,o,_,h=>by simp at h
 |x::os,k,i,o,hb,h=>by
  simp only[iH,Bool.and_eq_true]at hb
  cases i with
  |zero=>
   simp at h;subst h
   intro e he hbe
   have:=List.all_eq_true.1 hb.1 e he
   simp only[hbe,Bool.not_true,Bool.false_or,decide_eq_true_eq]at this
   omega
  |succ i=>
   intro e he hbe
   have:=zZ (k:=k+1) (i:=i) hb.2 (by simpa using h) e he hbe
   omega
theorem Zx (hC:jh P C)(hR:dR P n ops xs σ){Q:Exit→Act→World→Prop}
 (hK: ∀T' H' R' a' w',K T' H'→gT R' H' w'→iC n R' T' a'.tmps→a'.defers=D→Ext R0 H0 w0 R' H' w'→Q .normal a' w'):
 ∀(fuel:Nat) (listed:Array Bool) (pre rest:List Nat) (S:Nat→Prop) (sZ:Nat→Nat) (T:Env) (H:aa) (R:Ren) (a:Act) (w:World),
  Inv D P C n ops xs σ K T0 R0 H0 w0 pre rest S sZ T H R a w→(∀i r,rest=i::r→qL xs i=true)→(∀i,listed.getD i false=true↔S i)→listed.size=ops.size →
  (∀l:List Nat,l.Nodup→(∀i ∈ l,i<ops.size∧¬ S i)→l.length≤fuel)→wpAny P .any ops Q fuel listed a w:=by
 intro fuel
 induction fuel with
 |zero=>
  intro listed pre rest S sZ T H R a w hI hhd hS hsz hf
  have hall: ∀i,i<ops.size→S i:=fun i hi=>Classical.byContradiction fun hn=>by
   have:=hf [i] (by simp) (by simp[hi,hn])
   simp at this
  constructor
  ·cases hrd:Region.ready .any ops listed with
   |nil=>rfl
   |cons i l=>
    have:i ∈ Region.ready .any ops listed:=by rw[hrd];simp
    obtain⟨h0,o,ho,_⟩:=mem_ready.1 this
    have hlt:=(Array.getElem?_eq_some_iff.1 ho).1
    have:=(hS i).2 (hall i hlt)
    have hi:i<listed.size:=by omega
    simp[hi]at h0 this
    rw[h0]at this;cases this
  ·have hrest:rest=[]:=by
    cases rest with
    |nil=>rfl
    |cons e r=>
     have:=nO hR hI.sched
     exact absurd (hI.sub e (hall e (hR.slt e (by rw[hI.sched];simp)))) this
   subst hrest
   have hES:ES ops S T T0=T:=by
    funext d
    by_cases h: ∃i,S i∧fJ ops i=some d
    ·rw[sW h]
    ·rw[uZ h]
     refine(hI.old d fun i hi hd=>h ⟨i,?_,hd⟩).symm
     obtain⟨o,ho,_⟩:=lJ hd
     exact hall i (Array.getElem?_eq_some_iff.1 ho).1
   have hrun:=hI.run
   simp only[M8,bP]at hrun
   have ht:=hI.tmps
   rw[hES]at ht
   exact hK T H R a w hrun hI.zU ht hI.defers hI.ext
 |succ fuel ih=>
  intro listed pre rest S sZ T H R a w hI hhd hS hsz hf
  have hget: ∀i,i<ops.size→(listed.getD i true=false↔¬ S i):=by
   intro i hi
   have h1:=hS i
   have hi:i<listed.size:=by omega
   simp[hi]at h1 ⊢
   rw[←h1];simp
  constructor
  ·intro hnil
   have hall: ∀i,i<ops.size→S i:=by
    intro i
    induction i using Nat.strongRecOn with
    |_ i ihi=>
     intro hi
     refine Classical.byContradiction fun hn=> ?_
     have:i ∈ Region.ready .any ops listed:=by
      rw[mem_ready]
      refine⟨(hget i hi).2 hn,ops[i],by simp[hi],fun e he hb=> ?_⟩
      have hlt:=zZ hR.back (i:=i) (o:=ops[i]) (by simp[hi]) e (by simpa using he) hb
      exact(hS e.on).2 (ihi e.on (by omega) (by omega))
     rw[hnil]at this;simp at this
   have hrest:rest=[]:=by
    cases rest with
    |nil=>rfl
    |cons e r=>
     have:=nO hR hI.sched
     exact absurd (hI.sub e (hall e (hR.slt e (by rw[hI.sched];simp)))) this
   subst hrest
   have hES:ES ops S T T0=T:=by
    funext d
    by_cases h: ∃i,S i∧fJ ops i=some d
    ·rw[sW h]
    ·rw[uZ h]
     refine(hI.old d fun i hi hd=>h ⟨i,?_,hd⟩).symm
     obtain⟨o,ho,_⟩:=lJ hd
     exact hall i (Array.getElem?_eq_some_iff.1 ho).1
   have hrun:=hI.run
   simp only[M8,bP]at hrun
   have ht:=hI.tmps
   rw[hES]at ht
   exact hK T H R a w hrun hI.zU ht hI.defers hI.ext
  ·intro i hi
   obtain⟨h0,o,ho,hed⟩:=mem_ready.1 hi
   have hil:=(Array.getElem?_eq_some_iff.1 ho).1
   have hns: ¬ S i:=(hget i hil).1 h0
   have hr: ∀e ∈ o.after.toList,Region.binds .any e=true→S e.on:=fun e he hb=>(hS e.on).1 (hed e (by simpa using he) hb)
   have hS': ∀k,(listed.setIfInBounds i true).getD k false=true↔(S k∨k=i):=by
    intro k
    by_cases hk:k=i
    ·subst hk
     have:k<listed.size:=by omega
     simp[this]
    ·rw[getD_set_ne false (fun h=>hk h.symm),hS k]
     simp[hk]
   have hsz':(listed.setIfInBounds i true).size=ops.size:=by simp[hsz]
   have hf': ∀l:List Nat,l.Nodup→(∀k ∈ l,k<ops.size∧¬ (S k∨k=i))→l.length≤fuel:=by
    intro l hl hh
    have:=hf (i::l) (List.nodup_cons.2 ⟨fun hm=>(hh i hm).2 (.inr rfl),hl⟩) (by
     intro k hk
     rcases List.mem_cons.1 hk with rfl|hk
     ·exact⟨hil,hns⟩
     ·exact⟨(hh k hk).1,fun h=>(hh k hk).2 (.inl h)⟩)
    simpa using this
   by_cases hp:i ∈ pre
   ·exact Wn hR hI hp hns ho hr fun R' a' w' hI'=>ih _ pre rest _ sZ T H R' a' w' hI' hhd hS' hsz' hf'
   ·have hmem:i ∈ pre++rest:=by rw[←hI.sched];exact hR.mem hil
    have hmem:i ∈ rest:=(List.mem_append.1 hmem).resolve_left hp
    cases rest with
    |nil=>simp at hmem
    |cons e r=>
     have he:i=e:=by
      rcases List.mem_cons.1 hmem with h|h
      ·exact h
      ·exfalso
       obtain⟨r1,r2,qim⟩:=List.append_of_mem h
       have hs2:σ=(pre++e::r1)++i::r2:=by rw[hI.sched,qim];simp
       have h3:=(hR.head hs2 (j:=e) (by simp)).1 (hhd e r rfl)
       have h4:=DN hR.back hI.closed i o e ho hr h3
       exact nO hR hI.sched (hI.sub e h4)
     subst he
     refine Zw hC hR hI ho (hhd i r rfl) hr fun T' H' R' a' w' hI'=> ?_
     obtain⟨qdC,Zy,qdD,T2,H2,hI2,qdE⟩:=advance hR _ _ _ _ _ hI'
     exact ih _ qdC Zy _ qdD T2 H2 R' a' w' hI2 qdE hS' hsz' hf'
theorem Zz (hm:P.follows .mixedOrders=true)(hC:jh P C){id:Nat}{l:List (aF×List aF)}{Q:Exit→Act→World→Prop}{R:Ren}{H:aa}{T:Env}{a:Act}{w:World}
 (hc:Kn P n ops=some l) (h:bP P C l K T H) (hS:gT R H w) (hT:iC n R T a.tmps) (hd:a.defers=D)
 (hK: ∀T' H' R' a' w',K T' H'→gT R' H' w'→iC n R' T' a'.tmps→a'.defers=D→Ext R H w R' H' w'→Q .normal a' w'):(Code.region id ops true).wp P Q a w:=by
 unfold Kn at hc
 split at hc
 case h_2=>cases hc
 rename_i xs hxs
 simp only[]at hc
 split at hc
 case isFalse=>cases hc
 rename_i hok
 injection hc with hc
 subst hc
 have hR:=dR.of hxs hok
 refine wp_region_any hm ?_
 have hI0:Inv D P C n ops xs (O5 ops.toList xs ops.size []) K T R H {w with drawn:=w.drawn+1} [] (O5 ops.toList xs ops.size []) (fun _=>False) (fun _=>0) T H R a {w with drawn:=w.drawn+1}:=by
  refine⟨rfl,fun _ h=>h.elim,fun _ _ _ h=>h.elim,fun _ h=>by simp at h,h,hS.drawn _,?_,hd,fun _ _=>rfl,fun _ h=>by simp at h,fun _ h=>by simp at h,Ext.refl _ _ _⟩
  have:ES ops (fun _=>False) T T=T:=by
   funext d;unfold ES;split <;> rfl
  rw[this];exact hT
 obtain⟨qdC,Zy,qdD,T2,H2,hI2,qdE⟩:=advance hR _ _ _ _ _ hI0
 refine Zx hC hR (fun T' H' R' a' w' k1 k2 k3 k4 k5=>hK T' H' R' a' w' k1 k2 k3 k4 k5.drawn) ops.size _ qdC Zy _ qdD T2 H2 R a _ hI2 qdE ?_ (by simp) ?_
 ·intro i
  by_cases h:i<ops.size <;> simp[h]
 ·intro l hl hh
  exact FC ops.size l hl fun i hi=>(hh i hi).1
end
end
section
section
variable {P:Program} {C:bu}
def ngt:Exit→Prop
 | .goto _=>False
 |_=>True
theorem KT {D:List Deferred}(hm:P.follows .mixedOrders=true)(hC:jh P C){n:Nat}: ∀(c:Code) (ic:fP) (Qi:Exit→Env→aa→Prop) (Q:Exit→Act→World→Prop) (R:Ren) (H:aa) (T:Env) (a:Act) (w:World),
 comp P n c=some ic→wz P C ic Qi T H→gT R H w→iC n R T a.tmps→a.defers=D →
 (∀e T' H' R' a' w',ngt e→Qi e T' H'→gT R' H' w'→iC n R' T' a'.tmps→a'.defers=D→Ext R H w R' H' w'→Q e a' w')→c.wp P Q a w:=by
 intro c
 induction c with
 |skip=>
  intro ic Qi Q R H T a w hc h hS hT hd hQ
  simp only[comp,Option.some.injEq]at hc;subst hc
  exact wp_skip (hQ .normal T H R a w trivial h hS hT hd (Ext.refl _ _ _))
 |region id ops draw=>
  intro ic Qi Q R H T a w hc h hS hT hd hQ
  cases draw with
  |false=>
   simp only[comp]at hc
   split at hc
   ·rename_i xs hxs
    injection hc with hc;subst hc
    exact wp_region_list (Pm hC ops.toList xs R H T a w hxs h hS hT hd fun T' H' R' a' w' k1 k2 k3 k4 k5=>hQ .normal T' H' R' a' w' trivial k1 k2 k3 k4 k5)
   ·injection hc with hc;subst hc;exact h.elim
  |true=>
   simp only[comp]at hc
   split at hc
   ·rename_i l hl
    injection hc with hc;subst hc
    exact Zz hm hC hl h hS hT hd fun T' H' R' a' w' k1 k2 k3 k4 k5=>hQ .normal T' H' R' a' w' trivial k1 k2 k3 k4 k5
   ·injection hc with hc;subst hc;exact h.elim
 |seq x y ihx ihy=>
  intro ic Qi Q R H T a w hc h hS hT hd hQ
  simp only[comp]at hc
  split at hc
  case h_2=>cases hc
  rename_i ix iy hx hy
  injection hc with hc;subst hc
  refine wp_seq (ihx ix _ _ R H T a w hx h hS hT hd fun e T' H' R' a' w' k0 k1 k2 k3 k4 k5=> ?_)
  cases e with
  |normal=>exact ihy iy _ _ R' H' T' a' w' hy k1 k2 k3 k4 fun e T2 H2 R2 a2 w2 q0 q1 q2 q3 q4 q5=>hQ e T2 H2 R2 a2 w2 q0 q1 q2 q3 q4 (k5.trans q5)
  |_=>exact hQ _ T' H' R' a' w' k0 k1 k2 k3 k4 k5
 |cond co x y ihx ihy=>
  intro ic Qi Q R H T a w hc h hS hT hd hQ
  simp only[comp]at hc
  split at hc
  case isFalse=>injection hc with hc;subst hc;exact h.elim
  rename_i hok
  split at hc
  case h_2=>cases hc
  rename_i ix iy hx hy
  injection hc with hc;subst hc
  simp only[wz]at h
  have hr:=bf hT hok
  split at h
  ·rename_i he
   rw[he]at hr
   exact wp_cond_true hr.Kr (ihx ix _ _ R H T a w hx h hS hT hd hQ)
  ·rename_i he
   rw[he]at hr
   exact wp_cond_false hr.Kr (ihy iy _ _ R H T a w hy h hS hT hd hQ)
  ·exact h.elim
 |block id x ih=>
  intro ic Qi Q R H T a w hc h hS hT hd hQ
  simp only[comp,Option.map_eq_some_iff]at hc
  obtain⟨ix,hx,rfl⟩:=hc
  refine wp_block (ih ix _ _ R H T a w hx h hS hT hd fun e T' H' R' a' w' k0 k1 k2 k3 k4 k5=> ?_)
  cases e with
  |exit id'=>
   simp only[wY]at k1
   simp only[Exit.inBlock]
   split
   ·rename_i he;rw[if_pos he]at k1;exact hQ _ T' H' R' a' w' trivial k1 k2 k3 k4 k5
   ·rename_i he;rw[if_neg he]at k1;exact hQ _ T' H' R' a' w' trivial k1 k2 k3 k4 k5
  |_=>exact hQ _ T' H' R' a' w' k0 k1 k2 k3 k4 k5
 |loop x ih=>
  intro ic Qi Q R H T a w hc h hS hT hd hQ
  simp only[comp,Option.map_eq_some_iff]at hc
  obtain⟨ix,hx,rfl⟩:=hc
  have key:=h (fun T' H'=> ∀R' a' w',gT R' H' w'→iC n R' T' a'.tmps→a'.defers=D→Ext R H w R' H' w'→∀b k cs,∃e a2 w2,Q e a2 w2∧Arrives P (lone (b.at a' (.code x :: .inLoop x::k)) cs w') b k cs e a2 w2) ?_
  ·intro b k cs
   obtain⟨e,a2,w2,hq,harr⟩:=key R a w hS hT hd (Ext.refl _ _ _) b k cs
   exact⟨e,a2,w2,hq,.of_steps (.one step_loop) harr⟩
  ·intro T' H' hb R' a' w' hS' hT' hd' hE b k cs
   have hw:=ih ix _ (Exit.then (fun a2 w2=> ∀b k cs,∃e a3 w3,Q e a3 w3∧Arrives P (lone (b.at a2 (.code x :: .inLoop x::k)) cs w2) b k cs e a3 w3) Q) R' H' T' a' w' hx hb hS' hT' hd'
    (fun e T2 H2 R2 a2 w2 q0 q1 q2 q3 q4 q5=>by
      cases e with
      |normal=>exact q1 R2 a2 w2 q2 q3 q4 (hE.trans q5)
      |_=>exact hQ _ T2 H2 R2 a2 w2 q0 q1 q2 q3 q4 (hE.trans q5))
   obtain⟨e,a₁,w₁,hq,harr⟩:=hw b (.inLoop x::k) cs
   cases e with
   |normal=>
    obtain⟨e₂,a₂,w₂,hq₂,harr₂⟩:=hq b k cs
    exact⟨e₂,a₂,w₂,hq₂,.of_steps (Steps.trans harr (.one step_inLoop)) harr₂⟩
   |exit id=>exact⟨_,a₁,w₁,hq,.pass (x:=.inLoop x) rfl (fun _ _=>.inl (by simp)) harr⟩
   |goto l=>exact⟨_,a₁,w₁,hq,.pass (x:=.inLoop x) rfl (fun _ _=>.inl (by simp)) harr⟩
   |ret=>exact⟨_,a₁,w₁,hq,.pass (x:=.inLoop x) rfl (fun _ _=>.inl (by simp)) harr⟩
   |panic ch=>exact⟨_,a₁,w₁,hq,.pass (x:=.inLoop x) rfl (fun _ _=>.inl (by simp)) harr⟩
   |outgrown=>exact⟨_,a₁,w₁,hq,.pass (x:=.inLoop x) rfl (fun _ _=>.inl (by simp)) harr⟩
 |exit id=>
  intro ic Qi Q R H T a w hc h hS hT hd hQ
  simp only[comp,Option.some.injEq]at hc;subst hc
  exact wp_exit (hQ _ T H R a w trivial h hS hT hd (Ext.refl _ _ _))
 |ret=>
  intro ic Qi Q R H T a w hc h hS hT hd hQ
  simp only[comp,Option.some.injEq]at hc;subst hc
  exact wp_ret (hQ _ T H R a w trivial h hS hT hd (Ext.refl _ _ _))
 |scope x ih=>
  intro ic Qi Q R H T a w hc h hS hT hd hQ
  simp only[comp]at hc
  refine wp_scope_straight (ih ic Qi _ R H T a w hc h hS hT hd fun e T' H' R' a' w' k0 k1 k2 k3 k4 k5=> ?_)
  cases e with
  |goto l=>exact k0.elim
  |_=>exact hQ _ T' H' R' a' w' k0 k1 k2 k3 k4 k5
 |label l=>
  intro ic Qi Q R H T a w hc h hS hT hd hQ
  simp only[comp,Option.some.injEq]at hc;subst hc
  exact wp_label (hQ .normal T H R a w trivial h hS hT hd (Ext.refl _ _ _))
 |_=>
  intro ic Qi Q R H T a w hc h hS hT hd hQ
  simp only[comp,Option.some.injEq]at hc;subst hc
  exact h.elim
def Av (tmps:Array Value):ResultVar→Sem Value
 | .tmp t=>pure (tmps.getD t undef)
 | .cell a t=>do loadVar t (←asAddr (tmps.getD a undef))
theorem Ri {R:Ren}{H:aa}{w:World}{n:Nat}{T:Env}{tmps:Array Value}(hS:gT R H w)(hT:iC n R T tmps): ∀(rs:List ResultVar) (is:List wC) (l:List Value),mI P rs=some is→di T H is=some l →
 ∃l',(rs.mapM (Av tmps)).run P w = .ok l' w∧eT R l l'
 |[],is,l,hc,h=>by
  simp only[mI,Option.some.injEq]at hc;subst hc
  simp only[di,Option.some.injEq]at h;subst h
  exact⟨[],by simp,.nil⟩
 |r::rs,is,l,hc,h=>by
  have fin: ∀(i:wC) (is':List wC),mI P rs=some is'→di T H (i::is')=some l→(∀v,dI T H i=some v→∃v',(Av tmps r).run P w = .ok v' w∧VR R v v') →
   ∃l',((r::rs).mapM (Av tmps)).run P w = .ok l' w∧eT R l l':=by
   intro i is' hc' h' h1
   simp only[di]at h'
   split at h'
   case h_2=>cases h'
   rename_i v hv
   cases hl:di T H is' with
   |none=>rw[hl]at h';simp at h'
   |some l2=>
    rw[hl]at h'
    simp only[Option.map_some,Option.some.injEq]at h'
    subst h'
    obtain⟨v',h2,h3⟩:=h1 v hv
    obtain⟨l2',h4,h5⟩:=Ri hS hT rs is' l2 hc' hl
    refine⟨v'::l2',?_,.cons h3 h5⟩
    rw[List.mapM_cons]
    simp[h2,h4]
  cases r with
  |tmp t=>
   simp only[mI,Option.map_eq_some_iff]at hc
   obtain⟨is',hc',rfl⟩:=hc
   refine fin _ is' hc' h fun v hv=> ?_
   simp only[dI,Option.some.injEq]at hv
   subst hv
   exact⟨tmps.getD t undef,by simp[Av],hT.get t⟩
  |cell ad t=>
   simp only[mI]at hc
   split at hc
   ·rename_i m hag hsz
    simp only[Option.map_eq_some_iff]at hc
    obtain⟨is',hc',rfl⟩:=hc
    refine fin _ is' hc' h fun v hv=> ?_
    simp only[dI]at hv
    split at hv
    case h_2=>cases hv
    rename_i b o he
    have hr:=hT.get ad
    rw[he]at hr
    obtain⟨hx,hb⟩:=hr.o5
    simp only[Option.map_eq_some_iff]at hv
    obtain⟨l3,hl,rfl⟩:=hv
    obtain⟨arr,e,fr,hw,hle,hv⟩:=hS.aT hb hl
    refine⟨_,?_,.agg _ _ (by simpa using hv)⟩
    simp only[Av,hx,asAddr,pure_bind]
    exact Dy hag hsz hw hle
   ·rename_i m hag hsz
    simp only[Option.map_eq_some_iff]at hc
    obtain⟨is',hc',rfl⟩:=hc
    refine fin _ is' hc' h fun v hv=> ?_
    simp only[dI]at hv
    split at hv
    case h_2=>cases hv
    rename_i b o he
    have hr:=hT.get ad
    rw[he]at hr
    obtain⟨hx,hb⟩:=hr.o5
    obtain⟨arr,e,fr,v',hw,hv',hr'⟩:=hS.aj hb hv
    refine⟨v',?_,hr'⟩
    simp only[Av,hx,asAddr,pure_bind]
    exact Dz hag hw hv'
   ·cases hc
theorem results_eq (fn:Func)(tmps:Array Value):results fn tmps=(fn.results.mapM (Av tmps)) >>= fun vs=>pure (if h:vs.size=1 then vs[0]else .tuple vs):=by
 unfold results
 congr 1
theorem Vg {R:Ren}{H:aa}{w:World}{n:Nat}{T:Env}{tmps:Array Value}(hS:gT R H w)(hT:iC n R T tmps){fn:Func}{is:List wC}{v:Value}(hc:mI P fn.results.toList=some is)(h:gy T H is=some v):
 ∃v',(results fn tmps).run P w = .ok v' w∧VR R v v':=by
 unfold gy at h
 have hr: ∀l,di T H is=some l→∃l',(results fn tmps).run P w = .ok (if h:l'.toArray.size=1 then l'.toArray[0]else .tuple l'.toArray) w∧eT R l l':=by
  intro l hl
  obtain⟨l',h1,h2⟩:=Ri hS hT fn.results.toList is l hc hl
  refine⟨l',?_,h2⟩
  rw[results_eq,Array.mapM_eq_mapM_toList]
  simp[h1]
 split at h
 ·rename_i u hl
  injection h with h;subst h
  obtain⟨l',h1,h2⟩:=hr _ hl
  cases h2 with
  |cons h3 h4=>cases h4;exact⟨_,h1,by simpa using h3⟩
 ·rename_i l hne hl
  injection h with h;subst h
  obtain⟨l',h1,h2⟩:=hr _ hl
  refine⟨_,h1,?_⟩
  have hln:=h2.length
  have:l'.toArray.size≠1:=by
   intro h5
   have h6:l.length=1:=by simpa[←hln]using h5
   match l,h6 with
   |[x],_=>exact hne x rfl
  rw[dif_neg this]
  exact .tuple _ _ (by simpa using h2)
 ·cases h
theorem Rj (hm:P.follows .mixedOrders=true){IP:FuncId→Option ah}{X:bu}(ZA: ∀f g,IP f=some g→qM P f=some g)(hX:jh P X):jh P (eH P IP X):=by
 intro f args H K h
 refine h (fun f args H K=>mK P f args H K) ?_
 intro f args H K hh
 rcases hh with hh|⟨g,hg,hbody⟩
 ·exact hX f args H K hh
 ·have hcf:=ZA f g hg
  unfold qM at hcf
  split at hcf
  case h_2=>cases hcf
  rename_i fn hfn
  split at hcf
  case h_2=>cases hcf
  rename_i c hc hname
  split at hcf
  case h_2=>cases hcf
  rename_i b r hb hr
  injection hcf with hcf
  subst hcf
  refine .inl ⟨?_,?_⟩
  ·intro as w
   have hname: ¬ fn.name = "runtime.NumGoroutine" :=by simpa using hname
   simp[callFunc,hfn,hname,hc]
  ·intro R w args' hS hA
   obtain⟨hle,hwp⟩:=hbody
   have hlen:=hA.length
   refine calls_of_wp hfn hc ?_
   refine KT (n:=fn.ntmps) hm (C:=fun f args H K=>mK P f args H K) (fun _ _ _ _ h=>h) c b _ _ R H _ _ w hb hwp hS ?_ rfl ?_
   ·simp only at hle
    refine⟨by simp at hlen ⊢;omega,fun t=> ?_⟩
    unfold Dr
    have: ∀(l:List Value) (l':List Value),eT R l l'→∀t,VR R (l.getD t undef) (l'.getD t undef):=by
     intro l l' hl t
     cases hg:l[t]? with
     |none=>
      have:l'[t]? =none:=by rw[List.getElem?_eq_none_iff]at hg ⊢;rw[←hl.length];exact hg
      simp[List.getD,hg,this];exact VR.undef R
     |some v=>
      obtain⟨v',hv',hr⟩:=hl.get t v hg
      simp[List.getD,hg,hv'];exact hr
    have h3:=this _ _ hA t
    by_cases ht:t<args'.size
    ·have:(args'++Array.replicate (fn.ntmps-args'.size) undef).getD t undef=args'.toList.getD t undef:=by
      simp[Array.getD,List.getD,ht,Array.getElem?_append,show t<args'.size+(fn.ntmps-args'.size)by omega]
     rw[this];exact h3
    ·have e1:args'.toList.getD t undef=undef:=by simp[List.getD,ht]
     rw[e1]at h3
     have:(args'++Array.replicate (fn.ntmps-args'.size) undef).getD t undef=undef:=by
      simp[Array.getElem?_append,ht]
      by_cases h5:t-args'.size<fn.ntmps-args'.size <;> simp[h5]
     rw[this];exact h3
   ·intro e T' H' R' a' w' _ k1 k2 k3 k4 k5
    have fin:(∃v,gy T' H' r=some v∧K v H')→a'.defers=[]∧∃v,(results fn a'.tmps).run P w' = .ok v w'∧jS K R H w (.returned v) w':=by
     rintro⟨v,h1,h2⟩
     obtain⟨v',h3,h4⟩:=Vg k2 k3 hr h1
     exact⟨k4,v',h3,v,v',R',H',rfl,h2,h4,k2,k5⟩
    cases e with
    |normal=>exact fin k1
    |ret=>exact fin k1
    |_=>exact k1.elim
end
end
end Go.Proofs.YtofpmkhcbijilaaGreatDoorI
