/- All operations that turn nothing, in one. / Operations that make one new thing. / Operations that turn the heap. / Appends, and the other operations that turn the heap. / All operations that turn the heap, in one. -/
import Derived.Test.YtofpmkhcbijilaaGreatDoorIdealF
namespace Go.Proofs.YtofpmkhcbijilaaGreatDoorI
open Go
set_option linter.unusedSimpArgs false
set_option linter.unusedVariables false
section
section
variable {P:Program} {n:Nat} {R:Ren} {H:aa} {w:World} {T:Env} {a:Act}
theorem V8 {s f:Field}{m:Nat}(hs:bz P f.type=some m)(hm:m≠0)(b o:Nat)(w:World):(fieldPlace ⟨b,o,none⟩ f).run P w = .ok ⟨b,o+f.offset,none⟩ w:=by
 have _:=s
 simp only[fieldPlace,Sem.run_bind,dM hs,Result.andThen_ok]
 rw[if_neg hm]
 simp[add_lit]
theorem NW {t:TypeId}{off:Nat}{cs cs':Array Value}{v:Value}(ha:o7 P t=some false)(hr:eT R cs.toList cs'.toList)(h:cs.toList[off]? =some v)(w:World):
 ∃v',(part t cs' off).run P w = .ok v' w∧VR R v v':=by
 obtain⟨v',h1,h2⟩:=hr.get off v h
 refine⟨v',?_,h2⟩
 have h1':cs'[off]? =some v':=by simpa using h1
 simp[part,Dx ha,h1']
theorem NY {t:TypeId}{off m:Nat}{cs cs':Array Value}(ha:o7 P t=some true)(hs:bz P t=some m)(hr:eT R cs.toList cs'.toList)(w:World):
 ∃v',(part t cs' off).run P w = .ok v' w∧VR R (.agg ((cs.toList.drop off).take m).toArray) v':=by
 refine⟨.agg (cs'.extract off (off+m)),?_,?_⟩
 ·simp[part,Dx ha,dM hs]
 ·refine .agg _ _ ?_
  have:=(hr.drop off).take m
  rw[Array.toList_extract]
  simpa[List.extract_eq_take_drop,Nat.add_sub_cancel_left]using this
theorem Pb {α:Type}{xs:Array α}{x:α}(h:xs.toList=[x]):xs = #[x]:=by cases xs;simp_all
theorem Ky {α:Type}{xs:Array α}{x y:α}(h:xs.toList=[x,y]):xs = #[x,y]:=by cases xs;simp_all
theorem Kz {dst:Option Tmp}{b:Builtin}{args:Array Operand}{nE:Array TypeId}{ty:TypeId}{pos:String}{after:Array Edge}{g:Option (Nat×Bool)}{io:bO}{v:Value}
 (hS:gT R H w) (hT:iC n R T a.tmps) (hok:mG (Op.call ⟨.builtin b,args,nE⟩).operands.toList=true)
 (hc:jd P (.call ⟨.builtin b,args,nE⟩) ty b nE.toList args.toList=some io) (hk:io.kind = .rd) (h:bB P T H io=some v):
 ∃v',(execOp a.eval ⟨dst,.call ⟨.builtin b,args,nE⟩,ty,pos,after,g⟩).run P w = .ok (.value v') w∧VR R v v':=by
 have raw:io = .raw (.call ⟨.builtin b,args,nE⟩) ty→∃v',(execOp a.eval ⟨dst,.call ⟨.builtin b,args,nE⟩,ty,pos,after,g⟩).run P w = .ok (.value v') w∧VR R v v':=by
  intro he
  subst he
  exact I8 (o:=⟨dst,.call ⟨.builtin b,args,nE⟩,ty,pos,after,g⟩) hT (by intro _ _;simp) hok h w
 have run (x:Sem Value) (v':Value) (hb: ∀cs,builtin b nE ty cs (args.map a.eval)=(do pure (.value (←x)))) (hx:x.run P w = .ok v' w):
  (execOp a.eval ⟨dst,.call ⟨.builtin b,args,nE⟩,ty,pos,after,g⟩).run P w = .ok (.value v') w:=by
  show(builtin b nE ty _ (args.map a.eval)).run P w=_
  rw[hb]
  simp[hx]
 unfold jd at hc
 split at hc
 ·rename_i t x hty hxs
  have hty':=Pb hty
  have KE:=Pb hxs
  subst hty';subst KE
  have hrx:=bf hT (aG hok (x:=x) (by simp[Op.operands,Call.operands]))
  split at hc
  ·rename_i e hu
   injection hc with hc;subst hc
   simp only[bB]at h
   split at h
   ·rename_i ad ln cp he
    rw[he]at hrx
    injection h with h;subst h
    obtain⟨x',c',hv⟩:=hrx.tV
    refine⟨_,run _ _ (fun cs=>rfl) ?_,.int _ _⟩
    simp[Builtin.len_,aH hu,hv,goInt]
   ·cases h
  ·rename_i kt e hu
   injection hc with hc;subst hc
   simp only[bB]at h
   split at h
   ·rename_i he
    rw[he]at hrx
    injection h with h;subst h
    have hv:a.eval x = .map none:=by cases hq:a.eval x <;> rw[hq]at hrx <;> cases hrx;rfl
    refine⟨_,run _ _ (fun cs=>rfl) ?_,.int _ _⟩
    simp[Builtin.len_,aH hu,hv,goInt]
   ·rename_i r he
    rw[he]at hrx
    split at h
    ·rename_i es cl hg
     injection h with h;subst h
     have hv:a.eval x = .map (some (R.blk r))∧R.dom r:=by
      cases hq:a.eval x <;> rw[hq]at hrx <;> cases hrx
      exact⟨rfl,by assumption⟩
     have ho:=hS.obj r hv.2
     rw[hg]at ho
     obtain⟨es',hw,hrel⟩:=ho
     have hln:=hrel.length
     refine⟨.int .i64 es.length,run _ _ (fun cs=>rfl) ?_,.int _ _⟩
     simp[Builtin.len_,aH hu,hv.1,goInt,iO P hw,hln]
    ·cases h
   ·cases h
  ·rename_i k e hu
   injection hc with hc;subst hc
   simp only[bB,ev,Option.some.injEq]at h;subst h
   refine⟨_,run _ _ (fun cs=>rfl) ?_,.int _ _⟩
   simp[Builtin.len_,aH hu,goInt]
  ·rename_i ar hu
   split at hc
   ·rename_i k e hu'
    injection hc with hc;subst hc
    simp only[bB,ev,Option.some.injEq]at h;subst h
    refine⟨_,run _ _ (fun cs=>rfl) ?_,.int _ _⟩
    simp[Builtin.len_,aH hu,aH hu',goInt]
   ·cases hc
  ·injection hc with hc;exact raw hc.symm
 ·rename_i t x hty hxs
  have hty':=Pb hty
  have KE:=Pb hxs
  subst hty';subst KE
  have hrx:=bf hT (aG hok (x:=x) (by simp[Op.operands,Call.operands]))
  split at hc
  ·rename_i e hu
   injection hc with hc;subst hc
   simp only[bB]at h
   split at h
   ·rename_i ad ln cp he
    rw[he]at hrx
    split at h
    ·rename_i yE
     injection h with h;subst h
     have hv: ∃x',a.eval x = .slice x' ln cp:=by
      cases hq:a.eval x <;> rw[hq]at hrx <;> cases hrx <;> first|exact⟨_,rfl⟩|(exfalso;unfold dQ at yE;omega)
     obtain⟨x',hv⟩:=hv
     refine⟨_,run _ _ (fun cs=>rfl) ?_,.int _ _⟩
     simp[Builtin.cap_,aH hu,hv,goInt]
    ·cases h
   ·cases h
  ·cases hc
 ·split at hc
  ·split at hc
   ·split at hc
    ·injection hc with hc;subst hc;cases hk
    ·cases hc
   ·split at hc
    ·injection hc with hc;subst hc;cases hk
    ·cases hc
   ·split at hc
    ·injection hc with hc;subst hc;cases hk
    ·cases hc
   ·cases hc
  ·cases hc
 ·split at hc
  ·rename_i e _ _ _
   cases hq:bz P e with
   |none=>simp[hq]at hc
   |some s=>simp[hq]at hc;subst hc;cases hk
  ·cases hc
 ·split at hc
  ·rename_i e _
   cases hq:gz P e with
   |none=>simp[hq]at hc
   |some s=>
    simp only[hq,Option.bind_some]at hc
    split at hc
    ·injection hc with hc;subst hc;cases hk
    ·cases hc
  ·cases hc
 ·split at hc
  ·injection hc with hc;subst hc;cases hk
  ·cases hc
 all_goals first|(injection hc with hc;exact raw hc.symm)|cases hc
theorem qbN {o:Oper}{io:bO}{v:Value}(hS:gT R H w)(hT:iC n R T a.tmps)(hc:iR P o=some io)(hk:io.kind = .rd)(h:bB P T H io=some v):
 ∃v',(execOp a.eval o).run P w = .ok (.value v') w∧VR R v v':=by
 unfold iR at hc
 split at hc
 ·cases hc
 rename_i hok
 have hok:mG o.op.operands.toList=true:=by cases hq:mG o.op.operands.toList with|true=>rfl|false=>exact absurd hq hok
 obtain⟨dst,op,ty,pos,after,g⟩:=o
 simp only at hc hok
 have raw:(∀cs b,op ≠ .select cs b)→io = .raw op ty→∃v',(execOp a.eval ⟨dst,op,ty,pos,after,g⟩).run P w = .ok (.value v') w∧VR R v v':=by
  intro hs he
  subst he
  exact I8 (o:=⟨dst,op,ty,pos,after,g⟩) hT hs hok h w
 cases op with
 |select cs b=>simp at hc
 |move x=>
  simp at hc;subst hc
  simp only[bB,Option.some.injEq]at h;subst h
  exact⟨_,rfl,bf hT (aG hok (by simp[Op.operands]))⟩
 |assign x=>
  simp at hc;subst hc
  simp only[bB,Option.some.injEq]at h;subst h
  exact⟨_,rfl,bf hT (aG hok (by simp[Op.operands]))⟩
 |pick c x y=>
  simp at hc;subst hc
  have hrc:=bf hT (aG hok (x:=c) (by simp[Op.operands]))
  have hrx:=bf hT (aG hok (x:=x) (by simp[Op.operands]))
  have hry:=bf hT (aG hok (x:=y) (by simp[Op.operands]))
  simp only[bB]at h
  cases he:ev T c <;> rw[he]at h hrc <;> simp at h
  rename_i b
  have hb:=hrc.Kr
  subst h
  refine⟨if b then a.eval x else a.eval y,?_,?_⟩
  ·simp only[execOp,hb,asBool];rfl
  ·cases b <;> assumption
 |alloc t=>cases hz:gz P t <;> simp[hz]at hc;subst hc;cases hk
 |box t x=>simp at hc;subst hc;cases hk
 |build t parts=>
  simp only[]at hc
  split at hc
  ·rename_i z fs hz hu
   cases hp:mH P fs.toList with
   |none=>simp[hp]at hc
   |some pl=>
    cases hq:fH (pl[·]?) parts.toList with
    |none=>simp[hp,hq]at hc
    |some ps=>
     simp[hp,hq]at hc
     subst hc
     simp only[bB]at h
     cases hf:bZ z.cells.toList (ps.map fun p=>(p.1,ev T p.2))with
     |none=>rw[hf]at h;simp at h
     |some l=>
      rw[hf]at h
      simp only[Option.map_some,Option.some.injEq]at h
      subst h
      have DD:=jD hz w
      have hpl: ∀(fl:List Field) (pl:List (Nat×Nat)),mH P fl=some pl→(fl.mapM fun f=>do pure (f.offset,←sizeOf f.type):Sem (List (Nat×Nat))).run P w = .ok pl w:=by
       intro fl
       induction fl with
       |nil=>intro pl hpl;simp only[mH,Option.some.injEq]at hpl;subst hpl;rfl
       |cons f fl ih=>
        intro pl hpl
        simp only[mH,bind,Option.bind,pure]at hpl
        cases hsf:bz P f.type with
        |none=>simp[hsf]at hpl
        |some s=>
         cases hrr:mH P fl with
         |none=>simp[hsf,hrr]at hpl
         |some r=>
          simp[hsf,hrr]at hpl
          subst hpl
          simp only[List.mapM_cons,Sem.run_bind,dM hsf,Result.andThen_ok,Sem.run_pure,ih r hrr]
      obtain⟨l',h1,h2⟩:=DC hT parts.toList ps z.cells.toList l z.cells (place:=fun i=>pl.toArray[i]?) (by simpa using hq)
       (fun x hx=>aG hok (by simp only[Op.operands];exact List.mem_map.2 ⟨x,hx,rfl⟩)) (VR.qF R DD.2).cells hf
      refine⟨.agg l',?_,.agg _ _ (by simpa using h2)⟩
      simp only[execOp,Instr.build,Sem.run_bind,DD.1,Result.andThen_ok,aH hu]
      have hm:=hpl fs.toList pl hp
      have hm':(fs.mapM fun f=>do pure (f.offset,←sizeOf f.type):Sem (Array (Nat×Nat))).run P w = .ok pl.toArray w:=by
       rw[Array.mapM_eq_mapM_toList]
       simp only[Sem.run_map,hm,Result.andThen_ok]
      rw[hm']
      simp only[Result.andThen_ok]
      have h1':Instr.fill (fun x=>pl.toArray[x]?) z.cells (parts.map fun(p:Nat×Operand)=>(p.1,a.eval p.2)).toList=some l':=by
       rw[Array.toList_map];exact h1
      rw[h1']
      rfl
  ·rename_i z k e hz hu
   cases hsz:bz P e with
   |none=>simp[hsz]at hc
   |some s=>
    cases hq:fH (fun i=>some (i*s,s)) parts.toList with
    |none=>simp[hsz,hq]at hc
    |some ps=>
     simp[hsz,hq]at hc
     subst hc
     simp only[bB]at h
     cases hf:bZ z.cells.toList (ps.map fun p=>(p.1,ev T p.2))with
     |none=>rw[hf]at h;simp at h
     |some l=>
      rw[hf]at h
      simp only[Option.map_some,Option.some.injEq]at h
      subst h
      have DD:=jD hz w
      obtain⟨l',h1,h2⟩:=DC hT parts.toList ps z.cells.toList l z.cells (place:=fun i=>some (i*s,s)) hq
       (fun x hx=>aG hok (by simp only[Op.operands];exact List.mem_map.2 ⟨x,hx,rfl⟩)) (VR.qF R DD.2).cells hf
      refine⟨.agg l',?_,.agg _ _ (by simpa using h2)⟩
      simp only[execOp,Instr.build,Sem.run_bind,DD.1,Result.andThen_ok,aH hu,dM hsz]
      have h1':Instr.fill (fun i=>some (i*s,s)) z.cells (parts.map fun(p:Nat×Operand)=>(p.1,a.eval p.2)).toList=some l':=by
       rw[Array.toList_map];exact h1
      rw[h1']
      rfl
  ·cases hc
 |buildSlice t len parts=>
  simp only[]at hc
  split at hc
  ·split at hc
   ·split at hc
    ·rename_i e hu _ _ s z hs hz hcond
     cases hq:fH (fun i=>some (i*s,s)) parts.toList with
     |none=>simp[hq]at hc
     |some ps=>simp[hq]at hc;subst hc;cases hk
    ·cases hc
   ·cases hc
  ·cases hc
 |insert t m k x=>simp only[]at hc;split at hc <;> simp at hc;subst hc;cases hk
 |load t x=>
  simp only[]at hc
  have hrx:=bf hT (aG hok (x:=x) (by simp[Op.operands]))
  split at hc
  ·rename_i m hag hsz
   simp at hc;subst hc
   simp only[bB]at h
   split at h
   ·rename_i b o he
    rw[he]at hrx
    obtain⟨hx,hb⟩:=hrx.o5
    cases hl:H.aT b o m with
    |none=>rw[hl]at h;simp at h
    |some l=>
     rw[hl]at h
     simp only[Option.map_some,Option.some.injEq]at h
     subst h
     obtain⟨arr,e,fr,hw,hle,hv⟩:=hS.aT hb hl
     refine⟨_,?_,.agg _ _ (by simpa using hv)⟩
     simp only[execOp,Instr.loadAt,hx,Instr.sureAddr,pure_bind,Sem.run_bind]
     rw[Dy hag hsz hw hle]
     rfl
   ·cases h
  ·rename_i m hag hsz
   simp at hc;subst hc
   simp only[bB]at h
   split at h
   ·rename_i b o he
    rw[he]at hrx
    obtain⟨hx,hb⟩:=hrx.o5
    obtain⟨arr,e,fr,v',hw,hv,hr⟩:=hS.aj hb h
    refine⟨v',?_,hr⟩
    simp only[execOp,Instr.loadAt,hx,Instr.sureAddr,pure_bind,Sem.run_bind]
    rw[Dz hag hw hv]
    rfl
   ·cases h
  ·cases hc
 |store t x y=>simp only[]at hc;cases hsz:bz P t <;> simp[hsz]at hc;subst hc;cases hk
 |nilCheck x=>
  simp at hc;subst hc
  have hrx:=bf hT (aG hok (x:=x) (by simp[Op.operands]))
  simp only[bB]at h
  split at h
  ·rename_i ad he
   rw[he]at hrx
   injection h with h;subst h
   obtain⟨y,hy⟩:=hrx.Zf
   refine⟨.pointer (some y),?_,hy▸hrx⟩
   simp only[execOp,hy];rfl
  ·rename_i t u he
   rw[he]at hrx
   injection h with h;subst h
   obtain⟨u',hu,hr⟩:=hrx.Fx
   refine⟨.iface t u',?_,.iface _ _ _ hr⟩
   simp only[execOp,hu];rfl
  ·rename_i f b c he
   rw[he]at hrx
   injection h with h;subst h
   obtain⟨b',c',hu,h1,h2⟩:=hrx.Q0
   refine⟨.func (.func f) b' c',?_,.func _ _ _ _ _ h1 h2⟩
   simp only[execOp,hu];rfl
  ·cases h
 |binOp Zh t x y yt=>
  simp only[]at hc
  cases Zh <;> simp only[Option.some.injEq]at hc <;> subst hc <;> first
   |exact raw (by intro _ _;simp) rfl
   |exact Zg (.inl ⟨rfl,rfl⟩) hS hT hok h
   |exact Zg (.inr ⟨rfl,rfl⟩) hS hT hok h
 |convert s d x=>
  simp only[]at hc
  have hrx:=bf hT (aG hok (x:=x) (by simp[Op.operands]))
  split at hc
  ·split at hc
   ·simp at hc;subst hc;cases hk
   ·cases hc
  ·rename_i e hus hud
   split at hc
   ·rename_i hue
    simp at hc;subst hc
    simp only[bB]at h
    split at h
    ·rename_i ln cp he
     rw[he]at hrx
     injection h with h;subst h
     obtain⟨hv,_,_⟩:=hrx.yF
     refine⟨.string .empty,?_,.string _⟩
     simp only[execOp,convert,Sem.run_bind,aH hus,aH hud,Result.andThen_ok,hv,aH hue]
     rfl
    ·rename_i b o ln cp he
     rw[he]at hrx
     cases hl:H.aT b o ln with
     |none=>rw[hl]at h;simp at h
     |some l=>
      cases hb:gQ l with
      |none=>rw[hl]at h;simp[hb]at h
      |some l8=>
       rw[hl]at h
       simp only[Option.bind_some,hb,Option.map_some,Option.some.injEq]at h
       subst h
       obtain⟨hd,_,hcase⟩:=hrx.gU
       obtain⟨arr,e',fr,hw,hle,hv⟩:=hS.aT hd hl
       refine⟨.string ⟨l8.toArray⟩,?_,.string _⟩
       have hall: ∃(ad:Addr) (cs:Array Value) (c':Nat),a.eval x = .slice (some ad) ln c'∧(loadCells ad ln).run P w = .ok cs w∧gQ cs.toList=some l8:=by
        rcases hcase with⟨c',hv'⟩|⟨hl0,a',hv'⟩
        ·exact⟨_,_,c',hv',run_loadCells P hw hle,by simpa using Kw hv hb⟩
        ·subst hl0
         refine⟨a',#[],0,hv',rfl,?_⟩
         have:l=[]:=by have:=hv.length;simpa using this
         subst this
         exact hb
       obtain⟨ad,cs,c',h1,h2,h3⟩:=hall
       simp only[execOp,convert,Sem.run_bind,aH hus,aH hud,Result.andThen_ok,h1,aH hue,Conv.bytesToString]
       rw[h2]
       simp only[Result.andThen_ok]
       have h4:=NV P w cs.toList l8 .empty h3
       rw[←Array.forIn_toList]
       have h5:(⟨ByteArray.empty.data++l8.toArray⟩:ByteArray)=⟨l8.toArray⟩:=by simp
       rw[h5]at h4
       exact(congrArg (fun r:Result ByteArray=>(r.andThen fun s w'=>(pure (Value.string s):Sem Value).run P w').andThen fun a w'=>(pure (Next.value a):Sem Next).run P w') h4).trans rfl
    ·cases h
   ·cases hc
  ·injection hc with hc;exact raw (by intro _ _;simp) hc.symm
 |makeInterface t x=>
  simp only[]at hc
  have hrx:=bf hT (aG hok (x:=x) (by simp[Op.operands]))
  split at hc
  ·cases hc
  ·rename_i d hni hu
   simp at hc;subst hc
   simp only[bB,Option.some.injEq]at h;subst h
   refine⟨.iface t (a.eval x),?_,.iface _ _ _ hrx⟩
   simp only[execOp,Instr.makeInterface,Sem.run_bind,aH hu,Result.andThen_ok]
   rfl
  ·cases hc
 |makeFunc fn first captured=>
  cases fn with
  |func f=>
   simp at hc;subst hc
   simp only[bB,Option.some.injEq]at h;subst h
   refine⟨.func (.func f) (first.map a.eval) (captured.map a.eval),rfl,.func _ _ _ _ _ ?_ ?_⟩
   ·rw[Array.toList_map]
    simpa using eT.map first.toList fun x hx=>bf hT (aG hok (x:=x) (by simp only[Op.operands];simpa using .inl (by simpa using hx)))
   ·rw[Array.toList_map]
    simpa using eT.map captured.toList fun x hx=>bf hT (aG hok (x:=x) (by simp only[Op.operands];simpa using .inr (by simpa using hx)))
  |_=>simp only[Option.some.injEq]at hc;exact raw (by intro _ _;simp) hc.symm
 |makeMap t r=>
  cases r with
  |none=>simp at hc;subst hc;cases hk
  |some r=>simp only[Option.some.injEq]at hc;exact raw (by intro _ _;simp) hc.symm
 |makeSlice t l c=>
  simp only[]at hc
  split at hc
  ·split at hc
   ·split at hc
    ·injection hc with hc;subst hc;cases hk
    ·cases hc
   ·cases hc
  ·cases hc
 |slice t x lo hi mx=>
  simp only[]at hc
  have hox:okO x=true:=aG hok (x:=x) (by simp[Op.operands])
  have hrx:=bf hT hox
  have hlo: ∀y,lo=some y→okO y=true:=fun y hy=>aG hok (by subst hy;simp[Op.operands])
  have hhi: ∀y,hi=some y→okO y=true:=fun y hy=>aG hok (by subst hy;simp[Op.operands])
  have hmx: ∀y,mx=some y→okO y=true:=fun y hy=>aG hok (by subst hy;simp[Op.operands])
  split at hc
  ·rename_i e hu
   cases hsz:bz P e with
   |none=>simp[hsz]at hc
   |some s=>
    simp only[hsz,Option.bind_some]at hc
    split at hc
    ·rename_i hs0
     injection hc with hc;subst hc
     simp only[bB]at h
     split at h
     ·rename_i ad len cap he
      rw[he]at hrx
      split at h
      ·rename_i l hh m hb
       have hlh:l≤hh∧hh≤m.getD hh:=by
        unfold bH at hb
        split at hb
        ·split at hb
         ·rename_i hq
          simp only[Option.some.injEq,Prod.mk.injEq]at hb
          obtain⟨rfl,rfl,rfl⟩:=hb
          exact hq
         ·cases hb
        ·cases hb
       obtain⟨x',c',hv,h1,h2,h3⟩:=Kv hS hrx hlh.1 (fun q hq=>by have:=hlh.2;rw[hq]at this;simpa using this) h
       obtain⟨h4,_,_⟩:=Ku (P:=P) (w:=w) (isS:=true) hT hlo hhi hmx hb h1 h2
       refine⟨_,?_,h3⟩
       simp only[execOp,Instr.sliceAt,Sem.run_bind,aH hu,Result.andThen_ok,Instr.slice,hv]
       rw[h4]
       simp only[Result.andThen_ok,dM hsz]
       rfl
      ·cases h
     ·cases h
    ·cases hc
  ·rename_i k e hu
   cases hsz:bz P e with
   |none=>simp[hsz]at hc
   |some s=>
    simp only[hsz,Option.bind_some]at hc
    split at hc
    ·rename_i hs0
     injection hc with hc;subst hc
     simp only[bB]at h
     split at h
     ·rename_i b o he
      rw[he]at hrx
      obtain⟨hx,hd⟩:=hrx.o5
      split at h
      ·rename_i l hh m hb
       split at h
       ·rename_i hku
        have hlh:l≤hh∧hh≤m.getD hh:=by
         unfold bH at hb
         split at hb
         ·split at hb
          ·rename_i hq
           simp only[Option.some.injEq,Prod.mk.injEq]at hb
           obtain⟨rfl,rfl,rfl⟩:=hb
           exact hq
          ·cases hb
         ·cases hb
        obtain⟨x',c',hv,h1,h2,h3⟩:=Kv hS (VR.gm b o k k hd hku) hlh.1 (fun q hq=>by have:=hlh.2;rw[hq]at this;simpa using this) h
        injection hv with hv1 hv2 hv3
        subst hv1;subst hv3
        obtain⟨h4,_,_⟩:=Ku (P:=P) (w:=w) (isS:=false) hT hlo hhi hmx hb h1 h2
        refine⟨_,?_,h3⟩
        simp only[execOp,Instr.sliceAt,Sem.run_bind,aH hu,Result.andThen_ok,hx,Instr.sureAddr,pure_bind]
        rw[h4]
        simp only[Result.andThen_ok,dM hsz]
        by_cases hz:m.getD k=l
        ·simp only[hz,if_true];rfl
        ·simp only[if_neg hz];rfl
       ·cases h
      ·cases h
     ·cases h
    ·cases hc
  ·injection hc with hc;exact raw (by intro _ _;simp) hc.symm
  ·cases hc
 |fieldAddr t x i=>
  simp only[]at hc
  have hrx:=bf hT (aG hok (x:=x) (by simp[Op.operands]))
  split at hc
  ·rename_i fs hu
   split at hc
   ·rename_i f hf
    cases hsz:bz P f.type with
    |none=>simp[hsz]at hc
    |some s=>
     simp only[hsz,Option.bind_some]at hc
     split at hc
     ·cases hc
     ·rename_i hs0
      injection hc with hc;subst hc
      simp only[bB]at h
      split at h
      ·rename_i b o he
       rw[he]at hrx
       injection h with h;subst h
       obtain⟨hx,hd⟩:=hrx.o5
       refine⟨_,?_,by have:=VR.ptr (R:=R) b (o+f.offset) hd;exact this⟩
       have hf':fs[i]? =some f:=by simpa using hf
       simp only[execOp,Instr.fieldAt,Sem.run_bind,aH hu,Result.andThen_ok,hf',hx,Instr.sureAddr,pure_bind]
       rw[V8 (s:=f) hsz hs0]
       simp[Nat.add_assoc]
      ·cases h
   ·cases hc
  ·cases hc
 |field t x i=>
  simp only[]at hc
  have hrx:=bf hT (aG hok (x:=x) (by simp[Op.operands]))
  split at hc
  ·rename_i fs hu
   split at hc
   ·rename_i f hf
    have hf':fs[i]? =some f:=by simpa using hf
    split at hc
    ·rename_i m hag hsz
     simp at hc;subst hc
     simp only[bB]at h
     split at h
     ·rename_i cs he
      rw[he]at hrx
      obtain⟨cs',hx,hrs⟩:=hrx.I9
      split at h
      ·rename_i hle
       injection h with h;subst h
       obtain⟨v',h1,h2⟩:=NY (P:=P) (off:=f.offset) hag hsz hrs w
       refine⟨v',?_,h2⟩
       simp only[execOp,Instr.field,Sem.run_bind,aH hu,Result.andThen_ok,hf',hx,asAgg,pure_bind,h1]
       rfl
      ·cases h
     ·cases h
    ·rename_i m hag hsz
     simp at hc;subst hc
     simp only[bB]at h
     split at h
     ·rename_i cs he
      rw[he]at hrx
      obtain⟨cs',hx,hrs⟩:=hrx.I9
      obtain⟨v',h1,h2⟩:=NW hag hrs h w
      refine⟨v',?_,h2⟩
      simp only[execOp,Instr.field,Sem.run_bind,aH hu,Result.andThen_ok,hf',hx,asAgg,pure_bind,h1]
      rfl
     ·cases h
    ·cases hc
   ·cases hc
  ·cases hc
 |indexAddr t x i=>
  simp only[]at hc
  have hrx:=bf hT (aG hok (x:=x) (by simp[Op.operands]))
  have hri:=bf hT (aG hok (x:=i) (by simp[Op.operands]))
  split at hc
  ·rename_i e hu
   cases hsz:bz P e with
   |none=>simp[hsz]at hc
   |some s=>
    simp only[hsz,Option.map_some,Option.some.injEq]at hc
    subst hc
    simp only[bB]at h
    split at h
    ·rename_i b o len cap k j he hj
     rw[he]at hrx
     rw[hj]at hri
     have hi:=hri.qz
     split at h
     ·rename_i hcond
      injection h with h;subst h
      obtain⟨hd,_,hcase⟩:=hrx.gU
      rcases hcase with⟨c',hv⟩|⟨hl0,a',hv⟩
      ·refine⟨_,?_,by have:=VR.ptr (R:=R) b (o+j.toNat*s) hd;exact this⟩
       simp only[execOp,Instr.indexAt,hi,asIntOf,pure_bind,Sem.run_bind,aH hu,Result.andThen_ok,hv]
       rw[if_pos hcond]
       simp only[Sem.run_bind,dM hsz,Result.andThen_ok,add_lit,Sem.run_pure]
       rw[Nat.add_assoc]
      ·exfalso;omega
     ·cases h
    ·cases h
  ·rename_i k e hu
   split at hc
   ·rename_i hk1
    cases hsz:bz P e with
    |none=>simp[hsz]at hc
    |some s=>
     simp only[hsz,Option.map_some,Option.some.injEq]at hc
     subst hc
     simp only[bB]at h
     split at h
     ·rename_i b o k' j he hj
      rw[he]at hrx
      rw[hj]at hri
      have hi:=hri.qz
      split at h
      ·rename_i hcond
       injection h with h;subst h
       obtain⟨hx,hd⟩:=hrx.o5
       refine⟨_,?_,by have:=VR.ptr (R:=R) b (o+j.toNat*s) hd;exact this⟩
       simp only[execOp,Instr.indexAt,hi,asIntOf,pure_bind,Sem.run_bind,aH hu,Result.andThen_ok,hx,Instr.sureAddr]
       rw[if_pos hcond]
       simp only[Sem.run_bind,dM hsz,Result.andThen_ok,add_lit,Sem.run_pure]
       rw[Nat.add_assoc]
      ·cases h
     ·cases h
   ·cases hc
  ·cases hc
 |index t x i=>
  simp only[]at hc
  have hrx:=bf hT (aG hok (x:=x) (by simp[Op.operands]))
  have hri:=bf hT (aG hok (x:=i) (by simp[Op.operands]))
  split at hc
  ·injection hc with hc;exact raw (by intro _ _;simp) hc.symm
  ·rename_i k e hu
   split at hc
   ·rename_i s hag hsz
    simp at hc;subst hc
    simp only[bB]at h
    split at h
    ·rename_i cs k' j he hj
     rw[he]at hrx
     rw[hj]at hri
     have hi:=hri.qz
     split at h
     ·rename_i hcond
      injection h with h;subst h
      obtain⟨cs',hx,hrs⟩:=hrx.I9
      obtain⟨v',h1,h2⟩:=NY (P:=P) (off:=j.toNat*s) hag hsz hrs w
      refine⟨v',?_,h2⟩
      simp only[execOp,Instr.index,hi,asIntOf,pure_bind,Sem.run_bind,aH hu,Result.andThen_ok,hx]
      rw[if_pos ⟨hcond.1,hcond.2.1⟩]
      simp only[Sem.run_bind,dM hsz,Result.andThen_ok,h1]
      rfl
     ·cases h
    ·cases h
   ·rename_i hag hsz
    simp at hc;subst hc
    simp only[bB]at h
    split at h
    ·rename_i cs k' j he hj
     rw[he]at hrx
     rw[hj]at hri
     have hi:=hri.qz
     split at h
     ·rename_i hcond
      obtain⟨cs',hx,hrs⟩:=hrx.I9
      obtain⟨v',h1,h2⟩:=NW (P:=P) (off:=j.toNat) hag hrs h w
      refine⟨v',?_,h2⟩
      simp only[execOp,Instr.index,hi,asIntOf,pure_bind,Sem.run_bind,aH hu,Result.andThen_ok,hx]
      rw[if_pos hcond]
      simp only[Sem.run_bind,dM hsz,Result.andThen_ok,Nat.mul_one,h1]
      rfl
     ·cases h
    ·cases h
   ·cases hc
  ·cases hc
 |lookup t m k ok=>
  simp only[]at hc
  split at hc
  ·rename_i kt e hu
   cases hz:gz P e with
   |none=>simp[hz]at hc
   |some z=>
    simp only[hz,Option.map_some,Option.some.injEq]at hc
    subst hc
    exact Tw hS hT hu hz (aG hok (by simp[Op.operands])) (aG hok (by simp[Op.operands])) h
  ·cases hc
 |mapUpdate t m k x=>simp only[]at hc;split at hc <;> simp at hc;subst hc;cases hk
 |typeAssert x xt t ok=>
  simp only[]at hc
  have hrx:=bf hT (aG hok (x:=x) (by simp[Op.operands]))
  split at hc
  ·cases hc
  ·rename_i d hni hu
   cases hz:gz P t with
   |none=>simp[hz]at hc
   |some z=>
    simp only[hz,Option.map_some,Option.some.injEq]at hc
    subst hc
    have DD:=jD hz w
    have hzg:=VR.qF R DD.2
    simp only[bB]at h
    split at h
    ·rename_i t' u he
     rw[he]at hrx
     obtain⟨u',hx,hru⟩:=hrx.Fx
     split at h
     ·rename_i ht
      subst ht
      injection h with h;subst h
      refine⟨if ok then .tuple #[u',.bool true]else u',?_,?_⟩
      ·simp only[execOp,Instr.typeAssert,Sem.run_bind,aH hu,Result.andThen_ok,hx]
       cases d <;> first|exact absurd rfl (hni _)|simp
      ·cases ok
       ·exact hru
       ·exact .tuple _ _ (.cons hru (.cons (.bool _) .nil))
     ·rename_i ht
      split at h
      ·rename_i hk1
       injection h with h;subst h
       refine⟨.tuple #[z,.bool false],?_,.tuple _ _ (.cons hzg (.cons (.bool _) .nil))⟩
       simp only[execOp,Instr.typeAssert,Sem.run_bind,aH hu,Result.andThen_ok,hx]
       cases d <;> first|exact absurd rfl (hni _)|simp[hk1,DD.1,ht]
      ·cases h
    ·rename_i he
     rw[he]at hrx
     have hx:a.eval x = .nilIface:=by cases hq:a.eval x <;> rw[hq]at hrx <;> cases hrx
     split at h
     ·rename_i hk1
      injection h with h;subst h
      refine⟨.tuple #[z,.bool false],?_,.tuple _ _ (.cons hzg (.cons (.bool _) .nil))⟩
      simp only[execOp,Instr.typeAssert,Sem.run_bind,aH hu,Result.andThen_ok,hx]
      cases d <;> first|exact absurd rfl (hni _)|simp[hk1,DD.1]
     ·cases h
    ·cases h
  ·cases hc
 |extract x i=>
  simp at hc;subst hc
  have hrx:=bf hT (aG hok (x:=x) (by simp[Op.operands]))
  simp only[bB]at h
  split at h
  ·rename_i vs he
   rw[he]at hrx
   obtain⟨vs',hx,hrs⟩:=hrx.V6
   obtain⟨v',h1,h2⟩:=hrs.get i v h
   have h1':vs'[i]? =some v':=by simpa using h1
   refine⟨v',?_,h2⟩
   simp only[execOp,Instr.extract,hx,h1']
   rfl
  ·cases h
 |call c=>
  simp only[]at hc
  split at hc
  ·injection hc with hc;subst hc;cases hk
  ·injection hc with hc;subst hc;cases hk
  ·rename_i b hcb
   obtain⟨callee,args,nE⟩:=c
   simp only at hcb
   subst hcb
   exact Kz hS hT hok hc hk h
  ·cases hc
 |range t x=>
  simp only[]at hc
  split at hc
  ·injection hc with hc;subst hc;cases hk
  ·cases hc
 |next x s=>
  cases s with
  |true=>simp only[]at hc;cases hc
  |false=>simp only[]at hc;injection hc with hc;subst hc;cases hk
 |entry x=>simp only[Option.some.injEq]at hc;subst hc;cases hk
 |_=>simp only[Option.some.injEq]at hc;exact raw (by intro _ _;simp) hc.symm
theorem Q4 (P:Program)(o:Oper):zS P o = .never∨(∃d s,zS P o = .jL d s)∨(∃x,zS P o = .jQ x)∨∃t x l,zS P o = .invoke t x l:=by
 unfold zS
 (repeat' split) <;> first
   |exact .inl rfl
   |exact .inr (.inl ⟨_,_,rfl⟩)
   |exact .inr (.inr (.inl ⟨_,rfl⟩))
   |exact .inr (.inr (.inr ⟨_,_,_,rfl⟩))
theorem tZ {o:Oper}{io:bO}(hc:sU P o=some io):iR P o=some io∨(iR P o=none∧io=zS P o):=by
 unfold sU at hc
 split at hc
 ·rename_i h;exact .inl (h.trans hc)
 ·rename_i h;injection hc with hc;exact .inr ⟨h,hc.symm⟩
theorem Zi {o:Oper}{io:bO}{v:Value}(hS:gT R H w)(hT:iC n R T a.tmps)(hc:sU P o=some io)(hk:io.kind = .rd)(h:bB P T H io=some v):
 ∃v',(execOp a.eval o).run P w = .ok (.value v') w∧VR R v v':=by
 rcases tZ hc with hc|⟨-,rfl⟩
 ·exact qbN hS hT hc hk h
 ·rcases Q4 P o with e|⟨_,_,e⟩|⟨_,e⟩|⟨_,_,_,e⟩ <;> rw[e]at h <;> simp[bB]at h
end
end
section
theorem sV.move {R R':Ren}{o:Option dU}{b:Nat}{w w':World}(h:sV R o b w)(hl:R.le R')(hb:R.dom b)(hw: ∀x,w.heap[R.blk b]? =some x→w'.heap[R.blk b]? =some x):sV R' o b w':=by
 unfold sV at h ⊢
 split at h
 ·obtain⟨h1,h2,arr,t,fr,h3,h4,h5,h6⟩:=h
  rw[hl.len b hb,hl.base b hb,hl.size b hb,hl.blk b hb]
  exact⟨h1,h2,arr,t,fr,hw _ h3,h4,h5.mono hl,h6⟩
 ·obtain⟨es',h1,h2⟩:=h
  rw[hl.blk b hb]
  exact⟨es',hw _ h1,h2.mono hl⟩
 ·obtain⟨h0,m',h1,h2⟩:=h
  rw[hl.blk b hb,hl.base b hb]
  exact⟨h0,m',hw _ h1,h2.mono hl⟩
 ·trivial
 ·exact h
def Ren.add (R:Ren)(r blk size len:Nat):Ren where
 dom b:=R.dom b∨b=r
 blk b:=if b=r then blk else R.blk b
 base b:=if b=r then 0 else R.base b
 size b:=if b=r then size else R.size b
 len b:=if b=r then len else R.len b
theorem Ren.KG {R:Ren}{r blk size len:Nat}(h: ¬ R.dom r):R.le (R.add r blk size len):=by
 have hne: ∀b,R.dom b→b≠r:=fun b hb e=>h (e▸hb)
 refine⟨fun b hb=>.inl hb,fun b hb=> ?_,fun b hb=> ?_,fun b hb=> ?_,fun b hb=> ?_⟩ <;> simp[Ren.add,hne b hb]
structure V9 (w w':World):Prop where
 size:w'.heap.size=w.heap.size+1
 old: ∀k,k<w.heap.size→w'.heap[k]? =w.heap[k]?
 os:w'.os=w.os
 tape:w'.tape=w.tape
 output:w'.output=w.output
def Zj (R':Ren)(o:dU)(r:Nat)(x:Obj):Prop:=
 match o,x with
 | .cells cs false,.cells arr _ fr=>R'.len r=cs.length∧R'.base r=0∧R'.size r=arr.size∧cs.length≤arr.size∧eT R' cs (arr.toList.take cs.length)∧(∀j,j≤arr.size→¬ (fr.1≤j∧j<fr.2))
 | .map es clock,.map es' clock'=>clock'=clock∧dB R' es es'.toList
 | .iter m since seen last,.mapIter m' since' seen' last'=>R'.base r=0∧since'=since∧seen'=seen.toArray∧last'=last∧NU R' m m'
 |_,_=>False
theorem Ka {R:Ren}{H:aa}{w w':World}{r size len:Nat}{o:dU}{x:Obj}(hS:gT R H w)(hr:r<H.next)(hn: ¬ R.dom r)(hg:H.get r=some o)
 (hw:V9 w w') (hx:w'.heap[w.heap.size]? =some x) (hb:Zj (R.add r w.heap.size size len) o r x):gT (R.add r w.heap.size size len) H w':=by
 have hle:R.le (R.add r w.heap.size size len):=Ren.KG hn
 refine⟨?_,?_,?_,hS.wf⟩
 ·intro b hb
  rcases hb with hb|rfl
  ·exact hS.lt b hb
  ·exact hr
 ·intro b hb'
  by_cases hbr:b=r
  ·subst hbr
   rw[hg]
   unfold Zj at hb
   have e1:(R.add b w.heap.size size len).blk b=w.heap.size:=by simp[Ren.add]
   split at hb
   ·rename_i cs arr t fr
    obtain⟨h1,h2,h3,h4,h5,h6⟩:=hb
    refine⟨h1.symm,by rw[h2,h3];omega,arr,t,fr,by rw[e1];exact hx,h3.symm,by rw[h2];simpa using h5,fun _ j _ hj=>h6 j (by rw[h3]at hj;exact hj)⟩
   ·obtain⟨h1,h2⟩:=hb
    exact⟨_,by rw[e1,hx,h1],h2⟩
   ·obtain⟨h0,rfl,rfl,rfl,h4⟩:=hb
    exact⟨h0,_,by rw[e1,hx],h4⟩
   ·exact hb.elim
  ·have hbd:R.dom b:=hb'.resolve_right hbr
   have ho:=hS.obj b hbd
   cases hgb:H.get b with
   |none=>rw[hgb]at ho;exact ho.elim
   |some ob=>
    by_cases hd:ob = .dead
    ·subst hd;trivial
    ·rw[←hgb]
     refine ho.move hle hbd fun y hy=> ?_
     rw[hw.old _ (Array.getElem?_eq_some_iff.1 hy).1]
     exact hy
 ·intro b c hb' hc' hlb hlc hor he
  have key: ∀d,R.dom d→live H d→d≠r→(R.add r w.heap.size size len).blk d<w.heap.size:=fun d hd hl hne=>by
   have:=hS.Tt hd hl
   simpa[Ren.add,hne]using this
  have e1:(R.add r w.heap.size size len).blk r=w.heap.size:=by simp[Ren.add]
  by_cases hbr:b=r
  ·by_cases hcr:c=r
   ·rw[hbr,hcr]
   ·have:=key c (hc'.resolve_right hcr) hlc hcr
    rw[hbr,e1]at he;omega
  ·by_cases hcr:c=r
   ·have:=key b (hb'.resolve_right hbr) hlb hbr
    rw[hcr,e1]at he;omega
   ·have h1:=hb'.resolve_right hbr
    have h2:=hc'.resolve_right hcr
    refine hS.inj b c h1 h2 hlb hlc hor ?_
    simpa[Ren.add,hbr,hcr]using he
theorem eT.Pf {R:Ren}: ∀(l:List Value),(∀x ∈ l,VR R x x)→eT R l l
 |[],_=>.nil
 |x::l,h=>.cons (h x (by simp)) (eT.Pf l fun y hy=>h y (by simp[hy]))
theorem Pg {z:Value}(h:qy z=true)(i:Nat):uS (z.cells[i]!)=true:=by
 have hall: ∀x ∈ z.cells,uS x=true:=by
  unfold qy at h
  split at h
  ·intro x hx
   exact List.all_eq_true.1 h x (Array.mem_toList_iff.2 hx)
  ·rename_i hn
   intro x hx
   have:z.cells = #[z]:=by cases z <;> first|rfl|exact absurd rfl (hn _)
   rw[this]at hx
   simp only[List.mem_toArray,List.mem_singleton]at hx
   subst hx;exact h
 by_cases hi:i<z.cells.size
 ·rw[getElem!_pos z.cells i hi]
  exact hall _ (Array.getElem_mem hi)
 ·rw[getElem!_neg z.cells i hi]
  rfl
theorem xh (R:Ren){z:Value}(h:qy z=true)(m:Nat):eT R ((Array.range m).map (z.cells[· % z.cells.size]!)).toList ((Array.range m).map (z.cells[· % z.cells.size]!)).toList:=by
 refine eT.Pf _ fun x hx=> ?_
 rw[Array.toList_map]at hx
 obtain⟨i,_,rfl⟩:=List.mem_map.1 hx
 exact VR.nN R (Pg h _)
theorem uV (w:World)(x:Obj)(d:Nat):V9 w {w with heap:=w.heap.push x,drawn:=d}:=
 ⟨by simp,fun k hk=>by simp[Array.getElem?_push_lt,hk],rfl,rfl,rfl⟩
section
variable {P:Program} {n:Nat} {R:Ren} {H:aa} {w:World} {T:Env} {a:Act}
theorem Tx {r:Nat}{cs:List Value}{arr:Array Value}{t:TypeId}(hS:gT R H w)(hr:r<H.next)(hn: ¬ R.dom r)(hg:H.get r=some (.cells cs false))(hv:eT R cs arr.toList):
 gT (R.add r w.heap.size arr.size cs.length) H {w with heap:=w.heap.push (.cells arr t)}∧R.le (R.add r w.heap.size arr.size cs.length)∧V9 w {w with heap:=w.heap.push (.cells arr t)}:=by
 have hlen:cs.length=arr.size:=by have:=hv.length;simpa using this
 have hle:R.le (R.add r w.heap.size arr.size cs.length):=Ren.KG hn
 refine⟨Ka hS hr hn hg (uV w _ _) (x:=.cells arr t) (by simp) ?_,hle,uV w _ _⟩
 refine⟨by simp[Ren.add],by simp[Ren.add],by simp[Ren.add],by omega,?_,fun j _=>by simp⟩
 rw[List.take_of_length_le (by simp;omega)]
 exact hv.mono hle
structure Made (P:Program)(R:Ren)(H:aa)(w:World)(s:Sem Next)(r:Nat)(y:Value)(v':Value)(w':World)(R':Ren):Prop where
 run:s.run P w = .ok (.value v') w'
 zU:gT R' H w'
 val:VR R' y v'
 le:R.le R'
 dom: ∀b,R'.dom b↔(R.dom b∨b=r)
 blk:R'.blk r=w.heap.size
 one:V9 w w'
theorem qbO {o:Oper}{io:bO}{obj:dU}{mk:Nat→Value}{r:Nat}(hS:gT R H w)(hT:iC n R T a.tmps)(hc:iR P o=some io)(h:j3 T io=some (obj,mk))
 (hr:r<H.next) (hn: ¬ R.dom r) (hg:H.get r=some obj): ∃v' w' R',Made P R H w (execOp a.eval o) r (mk r) v' w' R':=by
 unfold iR at hc
 split at hc
 ·cases hc
 rename_i hok
 have hok:mG o.op.operands.toList=true:=by cases hq:mG o.op.operands.toList with|true=>rfl|false=>exact absurd hq hok
 obtain⟨dst,op,ty,pos,after,g⟩:=o
 simp only at hc hok
 have fin: ∀(cs:List Value) (arr:Array Value) (t:TypeId) (f:Nat→Value) (f':Nat→Value),H.get r=some (.cells cs false)→eT R cs arr.toList →
  ((execOp a.eval ⟨dst,op,ty,pos,after,g⟩).run P w = .ok (.value (f' w.heap.size)) {w with heap:=w.heap.push (.cells arr t)}) →
  (VR (R.add r w.heap.size arr.size cs.length) (f r) (f' w.heap.size))→∃v' w' R',Made P R H w (execOp a.eval ⟨dst,op,ty,pos,after,g⟩) r (f r) v' w' R':=by
  intro cs arr t f f' hg' hv hrun hval
  obtain⟨h1,h2,h3⟩:=Tx (t:=t) hS hr hn hg' hv
  exact⟨_,_,_,⟨hrun,h1,hval,h2,fun b=>Iff.rfl,by simp[Ren.add],h3⟩⟩
 have ptr: ∀size len,VR (R.add r w.heap.size size len) (.pointer (some ⟨r,0,none⟩)) (.pointer (some ⟨w.heap.size,0,none⟩)):=fun size len=>by
  have:=VR.ptr (R:=R.add r w.heap.size size len) r 0 (.inr rfl)
  simpa[Ren.add]using this
 have slc: ∀size len l c,c<dQ→VR (R.add r w.heap.size size len) (.slice (some ⟨r,0,none⟩) l c) (.slice (some ⟨w.heap.size,0,none⟩) l c):=fun size len l c yE=>by
  have:=VR.gm (R:=R.add r w.heap.size size len) r 0 l c (.inr rfl) yE
  simpa[Ren.add]using this
 cases op with
 |alloc t=>
  cases hz:gz P t with
  |none=>simp[hz]at hc
  |some z=>
   simp only[hz,Option.map_some,Option.some.injEq]at hc
   subst hc
   simp only[j3,Option.some.injEq,Prod.mk.injEq]at h
   obtain⟨rfl,rfl⟩:=h
   have DD:=jD hz w
   refine fin _ z.cells t (fun r=>.pointer (some ⟨r,0,none⟩)) (fun r=>.pointer (some ⟨r,0,none⟩)) hg (VR.qF R DD.2).cells ?_ (ptr _ _)
   simp only[execOp,Instr.alloc,Sem.run_bind,DD.1,Result.andThen_ok]
   rfl
 |box t x=>
  simp at hc;subst hc
  simp only[j3,Option.some.injEq,Prod.mk.injEq]at h
  obtain⟨rfl,rfl⟩:=h
  exact fin _ (a.eval x).cells t (fun r=>.pointer (some ⟨r,0,none⟩)) (fun r=>.pointer (some ⟨r,0,none⟩)) hg (bf hT (aG hok (by simp[Op.operands]))).cells rfl (ptr _ _)
 |buildSlice t len parts=>
  simp only[]at hc
  split at hc
  ·split at hc
   ·split at hc
    ·rename_i e hu _ _ s z hs hz hcond
     cases hq:fH (fun i=>some (i*s,s)) parts.toList with
     |none=>simp[hq]at hc
     |some ps=>
      simp only[hq,Option.map_some,Option.some.injEq]at hc
      subst hc
      simp only[j3]at h
      cases hf:bZ ((Array.range (len*s)).map (z.cells[· % z.cells.size]!)).toList (ps.map fun p=>(p.1,ev T p.2))with
      |none=>rw[hf]at h;simp at h
      |some l=>
       rw[hf]at h
       simp only[Option.map_some,Option.some.injEq,Prod.mk.injEq]at h
       obtain⟨rfl,rfl⟩:=h
       have DD:=jD hz w
       obtain⟨l',h1,h2⟩:=DC hT parts.toList ps _ l ((Array.range (len*s)).map (z.cells[· % z.cells.size]!)) (place:=fun i=>some (i*s,s)) hq
        (fun x hx=>aG hok (by simp only[Op.operands];exact List.mem_map.2 ⟨x,hx,rfl⟩)) (xh R DD.2 _) hf
       refine fin l l' e (fun r=>.slice (some ⟨r,0,none⟩) len len) (fun r=>.slice (some ⟨r,0,none⟩) len len) hg h2 ?_ (slc _ _ _ _ (by have:=hcond.2.2;unfold dQ;omega))
       simp only[execOp,Instr.buildSlice,Sem.run_bind,aH hu,Result.andThen_ok,dM hs]
       have h1':Instr.fill (fun i=>some (i*s,s)) ((Array.range (len*s)).map (z.cells[· % z.cells.size]!)) (parts.map fun(p:Nat×Operand)=>(p.1,a.eval p.2)).toList=some l':=by
        rw[Array.toList_map];exact h1
       rw[if_neg (by omega)]
       by_cases h0:len*s=0
       ·simp only[h0,if_true,pure_bind]at h1' ⊢
        have e0: ∀(z':Array Value),(Array.range 0).map (z'[· % z'.size]!) = #[]:=fun _=>by simp
        rw[e0]at h1' ⊢
        rw[h1']
        rfl
       ·rw[if_neg h0]
        simp only[bind_assoc,pure_bind,Sem.run_bind,DD.1,Result.andThen_ok]
        rw[h1']
        rfl
    ·cases hc
   ·cases hc
  ·cases hc
 |convert sT d x=>
  simp only[]at hc
  split at hc
  ·rename_i e hus hud
   split at hc
   ·rename_i hue hse
    injection hc with hc;subst hc
    have hrx:=bf hT (aG hok (x:=x) (by simp[Op.operands]))
    simp[j3]at h
   ·cases hc
  ·split at hc
   ·injection hc with hc;subst hc;cases h
   ·cases hc
  ·injection hc with hc;subst hc;cases h
 |makeMap t q=>
  cases q with
  |none=>
   simp at hc;subst hc
   simp only[j3,Option.some.injEq,Prod.mk.injEq]at h
   obtain⟨rfl,rfl⟩:=h
   have hle:R.le (R.add r w.heap.size 0 0):=Ren.KG hn
   refine⟨.map (some w.heap.size),{w with heap:=w.heap.push (.map #[] 0)},R.add r w.heap.size 0 0,⟨rfl,?_,?_,hle,fun b=>Iff.rfl,by simp[Ren.add],uV w _ _⟩⟩
   ·exact Ka hS hr hn hg (uV w _ _) (x:=.map #[] 0) (by simp) ⟨rfl,.nil⟩
   ·have:=VR.map (R:=R.add r w.heap.size 0 0) r (.inr rfl)
    simpa[Ren.add]using this
  |some q=>simp only[Option.some.injEq]at hc;subst hc;cases h
 |makeSlice t lo co=>
  simp only[]at hc
  split at hc
  ·rename_i e hu
   split at hc
   ·rename_i s b z hs hbt hz
    split at hc
    ·rename_i hcond
     injection hc with hc;subst hc
     have hrl:=bf hT (aG hok (x:=lo) (by simp[Op.operands]))
     have hrc:=bf hT (aG hok (x:=co) (by simp[Op.operands]))
     simp only[j3]at h
     split at h
     ·rename_i k1 l k2 c he1 he2
      rw[he1]at hrl
      rw[he2]at hrc
      split at h
      ·rename_i hq
       simp only[Option.some.injEq,Prod.mk.injEq]at h
       obtain⟨rfl,rfl⟩:=h
       have DD:=jD hz w
       have hzl:z.cells.toList.length=s:=by simpa using hcond.2
       refine fin _ ((Array.range (c.toNat*s)).map (z.cells[· % z.cells.size]!)) e (fun r=>.slice (some ⟨r,0,none⟩) l.toNat c.toNat) (fun r=>.slice (some ⟨r,0,none⟩) l.toNat c.toNat) hg ?_ ?_ (slc _ _ _ _ (by unfold dQ;omega))
       ·rw[hzl];exact xh R DD.2 _
       ·obtain⟨i,hi,hib⟩: ∃i,P.info? e=some i∧i.bytes=b:=by
         unfold wZ at hbt
         cases hi:P.info? e with
         |none=>simp[hi]at hbt
         |some i=>simp[hi]at hbt;exact⟨i,rfl,hbt⟩
        have hwl:IntKind.i64.wrap l=l:=by simp[IntKind.wrap,IntKind.bits,IntKind.signed];omega
        have hwc:IntKind.i64.wrap c=c:=by simp[IntKind.wrap,IntKind.bits,IntKind.signed];omega
        simp only[execOp,Instr.makeSlice,Sem.run_bind,aH hu,Result.andThen_ok,hrl.qz,hrc.qz,asInt,asIntOf,pure_bind,run_typeInfo hi,hib,hwl,hwc]
        have hcb:(b:Int)*c=c*b:=Int.mul_comm _ _
        rw[if_neg (by simp;omega)]
        simp only[Sem.run_bind,run_askRoom,Result.andThen_ok,dM hs,pure_bind,Sem.run_pure]
        by_cases h0:c.toNat*s=0
        ·simp only[h0,if_true,pure_bind]
         have e0: ∀(z':Array Value),(Array.range 0).map (z'[· % z'.size]!) = #[]:=fun _=>by simp
         rw[e0,e0]
         rfl
        ·rw[if_neg h0]
         simp only[bind_assoc,pure_bind,Sem.run_bind,DD.1,Result.andThen_ok]
         rfl
      ·cases h
     ·cases h
    ·cases hc
   ·cases hc
  ·cases hc
 |select cs b=>simp at hc
 |move x=>simp at hc;subst hc;cases h
 |assign x=>simp at hc;subst hc;cases h
 |pick c x y=>simp at hc;subst hc;cases h
 |build t parts=>
  simp only[]at hc
  split at hc
  ·rename_i z fs hz hu
   cases hp:mH P fs.toList with
   |none=>simp[hp]at hc
   |some pl=>
    cases hq:fH (pl[·]?) parts.toList with
    |none=>simp[hp,hq]at hc
    |some ps=>simp[hp,hq]at hc;subst hc;cases h
  ·rename_i z k e hz hu
   cases hsz:bz P e with
   |none=>simp[hsz]at hc
   |some s=>
    cases hq:fH (fun i=>some (i*s,s)) parts.toList with
    |none=>simp[hsz,hq]at hc
    |some ps=>simp[hsz,hq]at hc;subst hc;cases h
  ·cases hc
 |insert t m k x=>simp only[]at hc;split at hc <;> simp at hc;subst hc;cases h
 |mapUpdate t m k x=>simp only[]at hc;split at hc <;> simp at hc;subst hc;cases h
 |load t x=>simp only[]at hc;split at hc <;> simp at hc <;> subst hc <;> cases h
 |store t x y=>simp only[]at hc;cases hsz:bz P t <;> simp[hsz]at hc;subst hc;cases h
 |nilCheck x=>simp at hc;subst hc;cases h
 |binOp Zh t x y yt=>
  simp only[]at hc
  cases Zh <;> simp only[Option.some.injEq]at hc <;> subst hc <;> first
   |cases h
   |(unfold uT at h;split at h <;> (try split at h) <;> cases h)
 |makeInterface t x=>simp only[]at hc;split at hc <;> simp at hc;subst hc;cases h
 |makeFunc fn first captured=>cases fn <;> simp at hc <;> subst hc <;> cases h
 |slice t x lo hi mx=>
  simp only[]at hc
  split at hc
  ·rename_i e hu
   cases hsz:bz P e with
   |none=>simp[hsz]at hc
   |some s=>simp only[hsz,Option.bind_some]at hc;split at hc <;> simp at hc;subst hc;cases h
  ·rename_i k e hu
   cases hsz:bz P e with
   |none=>simp[hsz]at hc
   |some s=>simp only[hsz,Option.bind_some]at hc;split at hc <;> simp at hc;subst hc;cases h
  ·simp at hc;subst hc;cases h
  ·cases hc
 |fieldAddr t x i=>
  simp only[]at hc
  split at hc
  ·split at hc
   ·rename_i f hf
    cases hsz:bz P f.type with
    |none=>simp[hsz]at hc
    |some s=>simp only[hsz,Option.bind_some]at hc;split at hc <;> simp at hc;subst hc;cases h
   ·cases hc
  ·cases hc
 |field t x i=>
  simp only[]at hc
  split at hc
  ·split at hc
   ·split at hc <;> simp at hc <;> subst hc <;> cases h
   ·cases hc
  ·cases hc
 |indexAddr t x i=>
  simp only[]at hc
  split at hc
  ·rename_i e hu;cases hsz:bz P e <;> simp[hsz]at hc;subst hc;cases h
  ·rename_i k e hu
   split at hc
   ·cases hsz:bz P e <;> simp[hsz]at hc;subst hc;cases h
   ·cases hc
  ·cases hc
 |index t x i=>
  simp only[]at hc
  split at hc
  ·simp at hc;subst hc;cases h
  ·split at hc <;> simp at hc <;> subst hc <;> cases h
  ·cases hc
 |lookup t m k ok=>
  simp only[]at hc
  split at hc
  ·rename_i kt e hu;cases hz:gz P e <;> simp[hz]at hc;subst hc;cases h
  ·cases hc
 |typeAssert x xt t ok=>
  simp only[]at hc
  split at hc
  ·cases hc
  ·cases hz:gz P t <;> simp[hz]at hc;subst hc;cases h
  ·cases hc
 |extract x i=>simp at hc;subst hc;cases h
 |call c=>
  simp only[]at hc
  split at hc
  ·injection hc with hc;subst hc;cases h
  ·injection hc with hc;subst hc;cases h
  ·exfalso
   unfold jd at hc
   split at hc
   ·split at hc <;> first|(injection hc with hc;subst hc;cases h)|(split at hc <;> first|(injection hc with hc;subst hc;cases h)|cases hc)
   ·split at hc <;> first|(injection hc with hc;subst hc;cases h)|cases hc
   ·split at hc
    ·split at hc <;> first|(injection hc with hc;subst hc;cases h)|(split at hc <;> first|(injection hc with hc;subst hc;cases h)|cases hc)|cases hc
    ·cases hc
   ·split at hc
    ·rename_i e _ _ _;cases hq:bz P e <;> simp[hq]at hc;subst hc;cases h
    ·cases hc
   ·split at hc
    ·rename_i e _
     cases hq:gz P e with
     |none=>simp[hq]at hc
     |some z=>simp only[hq,Option.bind_some]at hc;split at hc <;> simp at hc;subst hc;cases h
    ·cases hc
   ·split at hc <;> first|(injection hc with hc;subst hc;cases h)|cases hc
   all_goals first|(injection hc with hc;subst hc;cases h)|cases hc
  ·cases hc
 |range t x=>
  simp only[]at hc
  split at hc
  ·injection hc with hc;subst hc;cases h
  ·cases hc
 |next x s=>
  cases s with
  |true=>simp only[]at hc;cases hc
  |false=>simp only[]at hc;injection hc with hc;subst hc;cases h
 |entry x=>simp only[Option.some.injEq]at hc;subst hc;cases h
 |_=>simp at hc;subst hc;cases h
theorem Zk {o:Oper}{io:bO}{obj:dU}{mk:Nat→Value}{r:Nat}(hS:gT R H w)(hT:iC n R T a.tmps)(hc:sU P o=some io)(h:j3 T io=some (obj,mk))
 (hr:r<H.next) (hn: ¬ R.dom r) (hg:H.get r=some obj): ∃v' w' R',Made P R H w (execOp a.eval o) r (mk r) v' w' R':=by
 rcases tZ hc with hc|⟨-,rfl⟩
 ·exact qbO hS hT hc h hr hn hg
 ·rcases Q4 P o with e|⟨_,_,e⟩|⟨_,e⟩|⟨_,_,_,e⟩ <;> rw[e]at h <;> simp[j3]at h
end
end
section
theorem DF {L vs:List Value}{base o m:Nat}(h1:o+vs.length≤m)(h2:base+m≤L.length):
 ((putAt L (base+o) vs).drop base).take m=putAt ((L.drop base).take m) o vs:=by
 apply List.ext_getElem?
 intro i
 unfold putAt
 simp only[List.getElem?_take,List.getElem?_drop,List.getElem?_append,List.length_append,List.length_take,List.length_drop]
 by_cases hi:i<m
 ·by_cases h3:i<o
  ·simp only[hi,if_true]
   rw[if_pos (by omega),if_pos (by omega),if_pos (by omega),if_pos (by omega),if_pos (by omega),if_pos (by omega)]
  ·by_cases h4:i<o+vs.length
   ·simp only[hi,if_true]
    rw[if_pos (by omega),if_neg (by omega),if_pos (by omega),if_neg (by omega)]
    congr 1;omega
   ·simp only[hi,if_true]
    rw[if_neg (by omega),if_neg (by omega),if_pos (by omega)]
    congr 1;omega
 ·rw[if_neg hi]
  by_cases h3:i<o
  ·omega
  ·by_cases h4:i<o+vs.length
   ·omega
   ·rw[if_neg (by omega),if_neg (by omega)]
theorem gM {L vs:List Value}{o:Nat}(h:o+vs.length≤L.length):(putAt L o vs).length=L.length:=by
 unfold putAt;simp;omega
structure WAt (w w':World)(k:Nat):Prop where
 size:w'.heap.size=w.heap.size
 old: ∀j,j≠k→w'.heap[j]? =w.heap[j]?
 os:w'.os=w.os
 tape:w'.tape=w.tape
 output:w'.output=w.output
theorem NZ (w:World)(b:Nat)(arr:Array Value)(t:TypeId)(fr:Nat×Nat):WAt w (World.jR w b arr t fr) b:=
 ⟨by simp[World.jR],fun j hj=>V4 (fun e=>hj e.symm),rfl,rfl,rfl⟩
section
variable {P:Program} {n:Nat} {R:Ren} {H:aa} {w:World} {T:Env} {a:Act}
theorem Ph {w':World}{b:Nat}{o x:dU}(hS:gT R H w)(hb:R.dom b)(hg:H.get b=some o)(hlo:live H b)(hrw:bL H b)(hw:WAt w w' (R.blk b))(hx:sV R (some x) b w')(hlx:x ≠ .dead):
 gT R (H.set b x) w'∧Ext R H w R (H.set b x) w':=by
 have hget: ∀c,(H.set b x).get c=if c=b then some x else H.get c:=fun c=>rfl
 have hlive: ∀c,live (H.set b x) c→live H c:=fun c hc=>by
  unfold live at hc ⊢
  rw[hget]at hc
  by_cases h:c=b
  ·subst h;exact hlo
  ·rw[if_neg h]at hc;exact hc
 have DI: ∀c,bL (H.set b x) c→bL H c:=fun c hc=>by
  unfold bL at hc ⊢
  rw[hget]at hc
  by_cases h:c=b
  ·subst h;exact hrw
  ·rw[if_neg h]at hc;exact hc
 constructor
 ·refine⟨hS.lt,fun c hc=> ?_,fun c d hc hd hlc hld hor he=>hS.inj c d hc hd (hlive c hlc) (hlive d hld) (hor.imp (DI c) (DI d)) he,fun c hc=>by rw[hget,if_neg (fun e:c=b=>by have:=hS.lt b hb;have hc':H.next≤c:=hc;omega)];exact hS.wf c hc⟩
  rw[hget]
  by_cases h:c=b
  ·subst h;simpa using hx
  ·rw[if_neg h]
   have ho:=hS.obj c hc
   cases hgc:H.get c with
   |none=>rw[hgc]at ho;exact ho.elim
   |some ob=>
    by_cases hd:ob = .dead
    ·subst hd;trivial
    ·rw[←hgc]
     have hl:live H c:=by unfold live;rw[hgc];cases ob <;> first|trivial|exact absurd rfl hd
     refine ho.move R.le_refl hc fun y hy=> ?_
     rw[hw.old _ (fun e=>h (hS.inj c b hc hb hl hlo (.inr hrw) e))]
     exact hy
 ·refine⟨R.le_refl,Nat.le_refl _,fun c hc=>.inl hc,fun c _ hn=> ?_,fun c cs hgc _=> ?_,fun k _ hk=>hw.old k fun e=>hk b hb hrw e.symm,fun c hc hl=> ?_,by rw[hw.size];exact Nat.le_refl _,hw.os,hw.tape,hw.output⟩
  ·rw[hget,if_neg (fun e:c=b=>hn (e▸hb))]
  ·rw[hget]
   by_cases h:c=b
   ·subst h;exfalso;unfold bL at hrw;rw[hgc]at hrw;exact hrw
   ·rw[if_neg h];exact hgc
  ·refine .inr ⟨c,hc,?_,rfl⟩
   unfold bL at hl ⊢
   rw[hget]at hl
   by_cases h:c=b
   ·subst h;exact hrw
   ·rw[if_neg h]at hl;exact hl
theorem gT.aK {H':aa}{b o:Nat}{vs vs':List Value}(hS:gT R H w)(hb:R.dom b)(h:H.aK b o vs=some H')(hv:eT R vs vs')(P:Program):
 ∃w',(storeCells ⟨R.blk b,R.base b+o,none⟩ vs').run P w = .ok () w'∧gT R H' w'∧Ext R H w R H' w':=by
 unfold aa.aK at h
 split at h
 ·rename_i cs hg
  split at h
  ·rename_i hcond
   injection h with h
   subst h
   have ho:=hS.obj b hb
   rw[hg]at ho
   obtain⟨h1,h2,arr,t,fr,h3,h4,h5,h6⟩:=ho
   have hlen:=hv.length
   have hrun:=xe P (b:=R.blk b) (o:=R.base b+o) (vs:=vs') h3 (by omega) (by rw[hv.one];exact hcond.2) (fun j hj1 hj2=>h6 rfl j (by omega) (by omega))
   refine⟨_,hrun,Ph hS hb hg (by unfold live;rw[hg];trivial) (by unfold bL;rw[hg];trivial) (NZ _ _ _ _ _) ?_ (by simp)⟩
   have hblk:R.blk b<w.heap.size:=(Array.getElem?_eq_some_iff.1 h3).1
   have hl1:(putAt cs o vs).length=cs.length:=gM hcond.1
   have hl2:(putAt arr.toList (R.base b+o) vs').length=arr.toList.length:=gM (by simp;omega)
   refine⟨by rw[hl1];exact h1,by rw[hl1];exact h2,_,t,fr,Al hblk,by simpa[hl2]using h4,?_,fun hr j hj1 hj2=>h6 hr j hj1 hj2⟩
   rw[hl1]
   simp only[]
   rw[DF (by rw[←hlen];exact hcond.1) (by simp;omega)]
   exact eT.putAt h5 hv o
  ·cases h
 ·cases h
theorem gT.yG (hS:gT R H w)(o:dU):gT R (H.alloc o) w:=by
 have hget: ∀c,R.dom c→(H.alloc o).get c=H.get c:=fun c hc=>by
  have:=hS.lt c hc
  show(if c=H.next then some o else H.get c)=_
  rw[if_neg (by omega)]
 refine⟨fun b hb=>Nat.lt_succ_of_lt (hS.lt b hb),fun b hb=>by rw[hget b hb];exact hS.obj b hb,fun b c hb hc hlb hlc hor he=>hS.inj b c hb hc ?_ ?_ (hor.imp (fun h=>by unfold bL at h ⊢;rw[hget b hb]at h;exact h) (fun h=>by unfold bL at h ⊢;rw[hget c hc]at h;exact h)) he,fun c hc=>by
  have hc':H.next+1≤c:=hc
  show(if c=H.next then some o else H.get c)=_
  rw[if_neg (by omega)];exact hS.wf c (by omega)⟩
 ·unfold live at hlb ⊢;rw[hget b hb]at hlb;exact hlb
 ·unfold live at hlc ⊢;rw[hget c hc]at hlc;exact hlc
theorem mh (H:aa)(o:dU):(H.alloc o).get H.next=some o:=by simp[aa.alloc]
theorem fM (H:aa)(o:dU){c:Nat}(hc:c<H.next):(H.alloc o).get c=H.get c:=by
 show(if c=H.next then some o else H.get c)=_
 rw[if_neg (by omega)]
theorem Pj {w':World}{o:dU}{R':Ren}(hS:gT R H w)(hle:R.le R')(hdom: ∀b,R'.dom b↔(R.dom b∨b=H.next))(hblk:R'.blk H.next=w.heap.size)(hw:V9 w w'):
 Ext R H w R' (H.alloc o) w':=by
 refine⟨hle,Nat.le_succ _,fun b hb=> ?_,fun b hb _=>fM H o hb,fun b cs hg hb=>by rw[fM H o hb];exact hg,fun k hk _=>hw.old k hk,fun b hb hl=> ?_,by rw[hw.size];omega,hw.os,hw.tape,hw.output⟩
 ·rcases(hdom b).1 hb with h|h
  ·exact .inl h
  ·exact .inr (by omega)
 ·rcases(hdom b).1 hb with h|h
  ·refine .inr ⟨b,h,?_,(hle.blk b h).symm⟩
   unfold bL at hl ⊢
   rw[fM H o (hS.lt b h)]at hl
   exact hl
  ·subst h;exact .inl (by omega)
theorem Zl {b:Nat}{cs:List Value}(hS:gT R H w)(hb:R.dom b)(hg:H.get b=some (.cells cs false)):gT R (H.set b .dead) w∧Ext R H w R (H.set b .dead) w:=by
 have hget: ∀c,(H.set b .dead).get c=if c=b then some .dead else H.get c:=fun c=>rfl
 have hlive: ∀c,live (H.set b .dead) c→live H c∧c≠b:=fun c hc=>by
  unfold live at hc ⊢
  rw[hget]at hc
  by_cases h:c=b
  ·rw[if_pos h]at hc;exact hc.elim
  ·rw[if_neg h]at hc;exact⟨hc,h⟩
 have DI: ∀c,bL (H.set b .dead) c→bL H c:=fun c hc=>by
  unfold bL at hc ⊢
  rw[hget]at hc
  by_cases h:c=b
  ·rw[if_pos h]at hc;exact hc.elim
  ·rw[if_neg h]at hc;exact hc
 constructor
 ·refine⟨hS.lt,fun c hc=> ?_,fun c d hc hd hlc hld hor he=>hS.inj c d hc hd (hlive c hlc).1 (hlive d hld).1 (hor.imp (DI c) (DI d)) he,fun c hc=>by rw[hget,if_neg (fun e:c=b=>by have:=hS.lt b hb;have hc':H.next≤c:=hc;omega)];exact hS.wf c hc⟩
  rw[hget]
  by_cases h:c=b
  ·rw[if_pos h];trivial
  ·rw[if_neg h];exact hS.obj c hc
 ·refine⟨R.le_refl,Nat.le_refl _,fun c hc=>.inl hc,fun c _ hn=> ?_,fun c cs' hgc _=> ?_,fun k _ hk=>rfl,fun c hc hl=> ?_,Nat.le_refl _,rfl,rfl,rfl⟩
  ·rw[hget,if_neg (fun e:c=b=>hn (e▸hb))]
  ·rw[hget]
   by_cases h:c=b
   ·subst h;rw[hg]at hgc;cases hgc
   ·rw[if_neg h];exact hgc
  ·refine .inr ⟨c,hc,?_,rfl⟩
   unfold bL at hl ⊢
   rw[hget]at hl
   by_cases h:c=b
   ·rw[if_pos h]at hl;exact hl.elim
   ·rw[if_neg h]at hl;exact hl
theorem Fy {size m:Nat}{s s':Value}{l:List Value}(hS:gT R H w)(hv:VR R s s')(hm: ∀q,iN s=some q→m≤q)(h:aY H size m s=some l):
 ∃l':Array Value,(∀d,(Builtin.firstCells size m s').run P {w with drawn:=d} = .ok l' {w with drawn:=d})∧eT R l l'.toList:=by
 unfold aY at h
 split at h
 ·obtain⟨h1,_,_⟩:=hv.yF
  injection h with h;subst h;subst h1
  exact⟨#[],fun d=>rfl,.nil⟩
 ·rename_i b o len cap
  obtain⟨hd,_,hcase⟩:=hv.gU
  split at h
  ·rename_i h0
   injection h with h;subst h
   refine⟨#[],fun d=> ?_,.nil⟩
   rcases hcase with⟨c',rfl⟩|⟨_,a',rfl⟩ <;> simp only[Builtin.firstCells,h0] <;> rfl
  ·rename_i h0
   obtain⟨arr,t,fr,hw,hle,hvs⟩:=hS.aT hd h
   rcases hcase with⟨c',rfl⟩|⟨hl0,a',rfl⟩
   ·exact⟨_,fun d=>run_loadCells P (w:={w with drawn:=d}) hw hle,by simpa using hvs⟩
   ·subst hl0
    have:=hm 0 rfl
    exfalso;apply h0;rw[show m=0 by omega];simp
 ·cases h
end
end
section
theorem N7 (m:Nat): ∀(k c:Nat),Builtin.growBy m k c≤max c (m+(m+768)/4)
 |0,c=>by simp only[Builtin.growBy];omega
 |k+1,c=>by
  simp only[Builtin.growBy]
  split
  ·omega
  ·have:=N7 m k (c+(c+768)/4)
   omega
theorem Tz {m c:Nat}(h:c<m):Builtin.nextslicecap m c≤2*m:=by
 unfold Builtin.nextslicecap
 split
 ·omega
 ·split
  ·omega
  ·have:=N7 m 4 c
   omega
def zV (e:TypeId)(size:Nat)(zeros:Bool)(s:Value)(base:Option Addr)(sLen sCap n:Nat)(x:Value)(appended:Sem (Array Value)):Sem Value:=do
 let need:=sLen+n
 if need≤sCap then
  let new ←appended
  if let some a:=base then storeCells (a.add (sLen*size)) new.toList
  pure (.slice base need sCap)
 else
  if (need:Int)>IntKind.i64.max∧(zeros∨(←typeInfo e).bytes=0)then runtimePanic (.error "growslice: len out of range")
  if Builtin.nextslicecap need sCap*(←typeInfo e).bytes>2 ^ 48 then (if zeros then runtimePanic (.error "growslice: len out of range")else do
   if !(←Builtin.mayShare size sLen n base x)then mark .noRoom
   unsupported (.resourceLimit "append: a slice or a string whose bytes no memory bears"))
  let newCap ←choose (.appendCap need sCap e)
  askRoom (newCap*(←typeInfo e).bytes)
  let old ←Builtin.firstCells size sLen s
  let new ←appended
  let rest:=Builtin.zeroCells (←zeroValue e).cells (newCap-need)
  pure (.slice (some (←newRow e (old++new++rest))) need newCap)
section
variable {P:Program} {n:Nat} {R:Ren} {H:aa} {w:World} {T:Env} {a:Act}
theorem DJ {e:TypeId}{size sLen sCap m:Nat}{zeros:Bool}{s x:Value}{base:Option Addr}{app:Sem (Array Value)}(h:sLen+m≤sCap):
 (zV e size zeros s base sLen sCap m x app).run P w=((app.run P w).andThen fun new w1=>((match base with|some a=>storeCells (a.add (sLen*size)) new.toList|none=>pure ():Sem Unit).run P w1).andThen fun _ w2=>.ok (.slice base (sLen+m) sCap) w2):=by
 unfold zV
 simp only[h,if_true,Sem.run_bind]
 congr 1
 funext new w1
 cases base <;> simp
theorem Wd {e:TypeId}{size bytes sLen sCap m:Nat}{zeros:Bool}{s x z:Value}{base:Option Addr}{app:Sem (Array Value)}(h: ¬ sLen+m≤sCap)
 (hb:wZ P e=some bytes) (hb0:0<bytes) (hz:gz P e=some z) (h1:(sLen+m)*bytes≤140737488355328) (h2:sLen+m≤140737488355328) {old new:Array Value}
 (hold:(Builtin.firstCells size sLen s).run P {w with drawn:=w.drawn+1} = .ok old {w with drawn:=w.drawn+1}) (hnew:app.run P {w with drawn:=w.drawn+1} = .ok new {w with drawn:=w.drawn+1}):
 ∃cap,sLen+m≤cap∧cap<dQ∧(zV e size zeros s base sLen sCap m x app).run P w = .ok (.slice (some ⟨w.heap.size,0,none⟩) (sLen+m) cap)
  {w with heap:=w.heap.push (.cells (old++new++Builtin.zeroCells z.cells (cap-(sLen+m))) e),drawn:=w.drawn+1}:=by
 have _:=hb0
 obtain⟨i,hi,hib⟩: ∃i,P.info? e=some i∧i.bytes=bytes:=by
  unfold wZ at hb
  cases hi:P.info? e with
  |none=>simp[hi]at hb
  |some i=>simp[hi]at hb;exact⟨i,rfl,hb⟩
 refine⟨(Question.appendCap (sLen+m) sCap e).cut (w.tape w.drawn (.appendCap (sLen+m) sCap e)),by simp[Question.cut],by
  have hm:=Nat.mod_lt (w.tape w.drawn (.appendCap (sLen+m) sCap e)) (show 0<2 ^ 63-(sLen+m)by omega)
  simp only[Question.cut,dQ];omega,?_⟩
 generalize hcap:(Question.appendCap (sLen+m) sCap e).cut (w.tape w.drawn (.appendCap (sLen+m) sCap e))=cap
 have hrun:(choose (.appendCap (sLen+m) sCap e)).run P w = .ok cap {w with drawn:=w.drawn+1}:=by rw[←hcap];rfl
 have DD:=fun w=>(jD (P:=P) hz w).1
 unfold zV
 simp only[h,if_false]
 have hn1: ¬ (((sLen+m:Nat):Int)>IntKind.i64.max∧(zeros=true∨bytes=0)):=by
  intro hq
  have:IntKind.i64.max=9223372036854775807:=by decide
  omega
 have hn2: ¬ (Builtin.nextslicecap (sLen+m) sCap*bytes>2 ^ 48):=by
  have:=Tz (m:=sLen+m) (c:=sCap) (by omega)
  have h3:Builtin.nextslicecap (sLen+m) sCap*bytes≤2*(sLen+m)*bytes:=Nat.mul_le_mul_right _ this
  rw[Nat.mul_assoc]at h3
  omega
 simp only[Sem.run_bind,run_typeInfo hi,Result.andThen_ok,hib]
 rw[if_neg hn1]
 simp only[Sem.run_bind,run_typeInfo hi,Result.andThen_ok,hib,pure_bind,Sem.run_pure]
 rw[if_neg hn2]
 simp only[Sem.run_bind,run_typeInfo hi,Result.andThen_ok,pure_bind,Sem.run_pure,hrun,run_askRoom,hold,hnew,DD]
 rfl
theorem mJ (z:Array Value)(m:Nat):(Builtin.zeroCells z m).size=m*z.size:=by simp[Builtin.zeroCells]
theorem zW (R:Ren){z:Value}(h:qy z=true)(m:Nat):eT R (Builtin.zeroCells z.cells m).toList (Builtin.zeroCells z.cells m).toList:=by
 unfold Builtin.zeroCells
 exact xh R h _
def Ren.bW (R:Ren)(r blk base size len:Nat):Ren where
 dom b:=R.dom b∨b=r
 blk b:=if b=r then blk else R.blk b
 base b:=if b=r then base else R.base b
 size b:=if b=r then size else R.size b
 len b:=if b=r then len else R.len b
theorem Ren.uf {R:Ren}{r blk base size len:Nat}(h: ¬ R.dom r):R.le (R.bW r blk base size len):=by
 have hne: ∀b,R.dom b→b≠r:=fun b hb e=>h (e▸hb)
 refine⟨fun b hb=>.inl hb,fun b hb=> ?_,fun b hb=> ?_,fun b hb=> ?_,fun b hb=> ?_⟩ <;> simp[Ren.bW,hne b hb]
theorem TA {b o len m c size:Nat}{cs news o9:List Value}{new:Array Value}(hS:gT R H w)(hd:R.dom b)(hg:H.get b=some (.cells cs false))(hq4:0<size)(hone:news.all fo=true)
 (hrel:eT R news new.toList) (hq5:news.length=m*size) (k1:R.len b≤o+c*size) (k2:R.base b+o+c*size≤R.size b) (hlc:len+m≤c) (hcU:size=1∨c<dQ) {s:Nat}
 (hfi:aY H size len (.slice (some ⟨b,o,none⟩) len s)=some o9) (hol:o9.length=len*size) (hoc:o≤cs.length):
 ∃w' R',(storeCells ⟨R.blk b,R.base b+o+len*size,none⟩ new.toList).run P w = .ok () w'∧VR R' (.slice (some ⟨H.next,0,none⟩) (len+m) (dQ+size)) (.slice (some ⟨R.blk b,R.base b+o,none⟩) (len+m) c) ∧
  gT R' ((H.set b .dead).alloc (.cells (o9++news) false)) w'∧Ext R H w R' ((H.set b .dead).alloc (.cells (o9++news) false)) w':=by
 have ho:=hS.obj b hd
 rw[hg]at ho
 obtain⟨g1,g2,arr,t,fr,g3,g4,g5,g6⟩:=ho
 have hmul:(len+m)*size≤c*size:=Nat.mul_le_mul_right _ hlc
 have hadd:(len+m)*size=len*size+m*size:=Nat.add_mul _ _ _
 have hnl:new.toList.length=m*size:=by rw[←hrel.length,hq5]
 have hrun:=xe P (b:=R.blk b) (o:=R.base b+o+len*size) (vs:=new.toList) g3 (by rw[hnl];omega) (by rw[hrel.one];exact hone) (fun j hj1 hj2=>g6 rfl j (by omega) (by rw[hnl]at hj2;omega))
 have hnd: ¬ R.dom H.next:=fun h=>Nat.lt_irrefl _ (hS.lt _ h)
 have hle:R.le (R.bW H.next (R.blk b) (R.base b+o) (R.size b) ((len+m)*size)):=Ren.uf hnd
 have hlive:live H b:=by unfold live;rw[hg];trivial
 have hrw:bL H b:=by unfold bL;rw[hg];trivial
 have hblk:R.blk b<w.heap.size:=(Array.getElem?_eq_some_iff.1 g3).1
 have hat:=NZ w (R.blk b) (putAt arr.toList (R.base b+o+len*size) new.toList).toArray t fr
 have hne: ∀x,R.dom x→x≠H.next:=fun x hx e=>hnd (e▸hx)
 have hget: ∀x,((H.set b .dead).alloc (.cells (o9++news) false)).get x=if x=H.next then some (.cells (o9++news) false)else if x=b then some .dead else H.get x:=fun x=>rfl
 have hlv: ∀x,R.dom x→live ((H.set b .dead).alloc (.cells (o9++news) false)) x→live H x∧x≠b:=fun x hx hl=>by
  unfold live at hl ⊢
  rw[hget,if_neg (hne x hx)]at hl
  by_cases hb:x=b
  ·rw[if_pos hb]at hl;exact hl.elim
  ·rw[if_neg hb]at hl;exact⟨hl,hb⟩
 have Q5: ∀x,R.dom x→bL ((H.set b .dead).alloc (.cells (o9++news) false)) x→bL H x:=fun x hx hl=>by
  unfold bL at hl ⊢
  rw[hget,if_neg (hne x hx)]at hl
  by_cases hb:x=b
  ·rw[if_pos hb]at hl;exact hl.elim
  ·rw[if_neg hb]at hl;exact hl
 have e0: ∀x,R.dom x→(R.bW H.next (R.blk b) (R.base b+o) (R.size b) ((len+m)*size)).blk x=R.blk x:=fun x hx=>hle.blk x hx
 have e1:(R.bW H.next (R.blk b) (R.base b+o) (R.size b) ((len+m)*size)).blk H.next=R.blk b:=by simp[Ren.bW]
 refine⟨_,R.bW H.next (R.blk b) (R.base b+o) (R.size b) ((len+m)*size),hrun,?_,⟨?_,?_,?_,fun c hc=>by
  have hc':H.next+1≤c:=hc
  have:=hS.lt b hd
  rw[hget,if_neg (by omega),if_neg (by omega)];exact hS.wf c (by omega)⟩,⟨hle,Nat.le_succ _,?_,?_,?_,?_,?_,by rw[hat.size];exact Nat.le_refl _,hat.os,hat.tape,hat.output⟩⟩
 ·have:=VR.iT (R:=R.bW H.next (R.blk b) (R.base b+o) (R.size b) ((len+m)*size)) H.next 0 (len+m) c size (.inr rfl) hq4 hlc hcU (by simp only[Ren.bW,if_true];omega) (by simp only[Ren.bW,if_true];omega)
  simpa[Ren.bW]using this
 ·intro x hx
  rcases hx with hx|rfl
  ·exact Nat.lt_succ_of_lt (hS.lt x hx)
  ·exact Nat.lt_succ_self _
 ·intro x hx
  rw[hget]
  by_cases Nf:x=H.next
  ·subst Nf
   rw[if_pos rfl]
   have hbx:(R.bW H.next (R.blk b) (R.base b+o) (R.size b) ((len+m)*size)).base H.next=R.base b+o:=by simp[Ren.bW]
   have hsx:(R.bW H.next (R.blk b) (R.base b+o) (R.size b) ((len+m)*size)).size H.next=R.size b:=by simp[Ren.bW]
   have hlx:(R.bW H.next (R.blk b) (R.base b+o) (R.size b) ((len+m)*size)).len H.next=(len+m)*size:=by simp[Ren.bW]
   have hll:(o9++news).length=(len+m)*size:=by simp[hol,hq5,Nat.add_mul]
   have hpl:(putAt arr.toList (R.base b+o+len*size) new.toList).length=arr.toList.length:=gM (by rw[hnl];simp;omega)
   refine⟨by rw[hlx,hll],by rw[hbx,hsx,hll];omega,_,t,fr,by rw[e1];exact Al hblk,by rw[hsx];simpa[hpl]using g4,?_,fun _ j hj1 hj2=>g6 rfl j (by rw[hbx]at hj1;omega) (by rw[hsx]at hj2;exact hj2)⟩
   rw[hbx,hll]
   simp only[]
   rw[DF (by rw[hnl];omega) (by simp;omega)]
   have hp:putAt ((arr.toList.drop (R.base b+o)).take ((len+m)*size)) (len*size) new.toList=(arr.toList.drop (R.base b+o)).take (len*size)++new.toList:=by
    unfold putAt
    have hdr:((arr.toList.drop (R.base b+o)).take ((len+m)*size)).drop (len*size+new.toList.length)=[]:=List.drop_eq_nil_of_le (by simp only[List.length_take,hnl];omega)
    rw[hdr,List.append_nil,List.take_take,Nat.min_eq_left (by omega)]
   rw[hp]
   refine(eT.append hrel ?_).mono hle
   simp only[aY]at hfi
   split at hfi
   ·rename_i h0
    injection hfi with hfi
    subst hfi
    rw[h0];exact .nil
   ·obtain⟨arr',t',fr',hw',hle',hv'⟩:=hS.aT hd hfi
    rw[g3]at hw'
    injection hw' with hw'
    injection hw' with h1 h2 h3
    subst h1
    exact hv'
  ·rw[if_neg Nf]
   have hxd:R.dom x:=hx.resolve_right Nf
   by_cases hxb:x=b
   ·rw[if_pos hxb];trivial
   ·rw[if_neg hxb]
    have hox:=hS.obj x hxd
    cases hgx:H.get x with
    |none=>rw[hgx]at hox;exact hox.elim
    |some ob=>
     by_cases hdd:ob = .dead
     ·subst hdd;trivial
     ·rw[←hgx]
      have hl:live H x:=by unfold live;rw[hgx];cases ob <;> first|trivial|exact absurd rfl hdd
      refine hox.move hle hxd fun y hy=> ?_
      rw[hat.old _ (fun e=>hxb (hS.inj x b hxd hd hl hlive (.inr hrw) e))]
      exact hy
 ·intro x y hx hy hlx hly hor he
  by_cases Nf:x=H.next
  ·by_cases hyn:y=H.next
   ·rw[Nf,hyn]
   ·exfalso
    have Ng:=hy.resolve_right hyn
    obtain⟨h1,h2⟩:=hlv y Ng hly
    rw[Nf,e1,e0 y Ng]at he
    exact h2 (hS.inj y b Ng hd h1 hlive (.inr hrw) he.symm)
  ·have hxd:=hx.resolve_right Nf
   obtain⟨h1,h2⟩:=hlv x hxd hlx
   by_cases hyn:y=H.next
   ·exfalso
    rw[hyn,e1,e0 x hxd]at he
    exact h2 (hS.inj x b hxd hd h1 hlive (.inr hrw) he)
   ·have Ng:=hy.resolve_right hyn
    rw[e0 x hxd,e0 y Ng]at he
    exact hS.inj x y hxd Ng h1 (hlv y Ng hly).1 (hor.imp (Q5 x hxd) (Q5 y Ng)) he
 ·intro x hx
  rcases hx with hx|rfl
  ·exact .inl hx
  ·exact .inr (Nat.le_refl _)
 ·intro x hx hn
  rw[hget,if_neg (by omega),if_neg (fun e:x=b=>hn (e▸hd))]
 ·intro x cs' hgx hx
  rw[hget,if_neg (by omega)]
  by_cases hxb:x=b
  ·subst hxb;rw[hg]at hgx;cases hgx
  ·rw[if_neg hxb];exact hgx
 ·intro k _ hk
  exact hat.old k fun e=>hk b hd hrw e.symm
 ·intro x hx hl
  rcases hx with hx|rfl
  ·refine .inr ⟨x,hx,?_,(e0 x hx).symm⟩
   unfold bL at hl ⊢
   rw[hget,if_neg (hne x hx)]at hl
   by_cases hxb:x=b
   ·rw[if_pos hxb]at hl;exact hl.elim
   ·rw[if_neg hxb]at hl;exact hl
  ·exact .inr ⟨b,hd,hrw,e1.symm⟩
theorem Ap {e:TypeId}{size bytes:Nat}{zeros:Bool}{s s' x v:Value}{m:Nat}{news:List Value}{app:Sem (Array Value)}{H':aa}{z:Value}
 (hS:gT R H w) (hs:VR R s s') (hb:wZ P e=some bytes) (hz:gz P e=some z) (hzs:z.cells.size=size)
 (h:bQ H size bytes s m news=some (v,H')) {new:Array Value} (hnew: ∀d,app.run P {w with drawn:=d} = .ok new {w with drawn:=d}) (hrel:eT R news new.toList):
 ∃base sLen sCap v' w' R',s' = .slice base sLen sCap∧(zV e size zeros s' base sLen sCap m x app).run P w = .ok v' w'∧VR R' v v'∧gT R' H' w'∧Ext R H w R' H' w':=by
 unfold bQ at h
 split at h
 case h_2=>cases h
 rename_i a len cap
 split at h
 case isFalse=>cases h
 rename_i hcond
 obtain⟨hq1,hq2,hq3,hq4,hq5⟩:=hcond
 have hnl:new.size=m*size:=by have:=hrel.length;rw[hq5]at this;simpa using this.symm
 have N8:app.run P w = .ok new w:=hnew w.drawn
 have grow: ∀(base:Option Addr) (sCap:Nat) (o9:List Value) (old:Array Value) (H0:aa),s' = .slice base len sCap→¬ len+m≤sCap→gT R H0 w→Ext R H w R H0 w →
  ((Builtin.firstCells size len s').run P {w with drawn:=w.drawn+1} = .ok old {w with drawn:=w.drawn+1})→eT R o9 old.toList→o9.length=len*size →
  v = .slice (some ⟨H0.next,0,none⟩) (len+m) (dQ+size)→H'=H0.alloc (.cells (o9++news) false) →
  ∃v' w' R',(zV e size zeros s' base len sCap m x app).run P w = .ok v' w'∧VR R' v v'∧gT R' H' w'∧Ext R H w R' H' w':=by
  intro base sCap o9 old H0 hs' hnc hS0 hE0 hold ho hol hv hH
  obtain⟨c,hc,hcU,hrun⟩:=Wd (zeros:=zeros) (s:=s') (x:=x) (base:=base) (size:=size) (sCap:=sCap) (sLen:=len) (m:=m) (P:=P) (app:=app) (old:=old) (new:=new) hnc hb hq3 hz hq1 hq2 hold (hnew _)
  have hos:old.size=len*size:=by have:=ho.length;rw[hol]at this;simpa using this.symm
  let arr:=old++new++Builtin.zeroCells z.cells (c-(len+m))
  have hsz:arr.size=c*size:=by
   simp only[arr,Array.size_append,mJ,hos,hnl,hzs]
   rw[←Nat.add_mul,←Nat.add_mul];congr 1;omega
  have hlen:(o9++news).length=(len+m)*size:=by simp[hol,hq5,Nat.add_mul]
  have hnd: ¬ R.dom H0.next:=fun hd=>Nat.lt_irrefl _ (hS0.lt _ hd)
  have hle:R.le (R.add H0.next w.heap.size arr.size (o9++news).length):=Ren.KG hnd
  have hmul:(len+m)*size≤c*size:=Nat.mul_le_mul_right _ hc
  have hSn:=Ka (w':={w with heap:=w.heap.push (.cells arr e),drawn:=w.drawn+1}) (size:=arr.size) (len:=(o9++news).length) (x:=.cells arr e) (hS0.yG (.cells (o9++news) false)) (Nat.lt_succ_self _) hnd (mh H0 _)
   (uV w _ _) (by simp) ⟨by simp[Ren.add],by simp[Ren.add],by simp[Ren.add],by rw[hlen,hsz];exact hmul,by
     have e1:arr.toList.take (o9++news).length=old.toList++new.toList:=by
      have:(o9++news).length=(old.toList++new.toList).length:=by simp[hol,hq5,hos,hnl]
      rw[this]
      simp only[arr,Array.toList_append]
      exact List.take_left
     rw[e1]
     exact(eT.append hrel ho).mono hle,fun j _=>by simp⟩
  subst hv;subst hH
  refine⟨_,_,_,hrun,?_,hSn,hE0.trans (Pj hS0 hle (fun b=>Iff.rfl) (by simp[Ren.add]) (uV w _ _))⟩
  have:=VR.iT (R:=R.add H0.next w.heap.size arr.size (o9++news).length) H0.next 0 (len+m) c size (.inr rfl) hq4 hc (.inr hcU) (by simp only[Ren.add,if_true];omega) (by simp only[Ren.add,if_true];omega)
  simpa[Ren.add]using this
 by_cases hm0:m=0
 ·
  subst hm0
  rw[if_pos rfl]at h
  split at h
  case isFalse=>cases h
  rename_i hlc
  simp only[Option.some.injEq,Prod.mk.injEq]at h
  obtain⟨rfl,rfl⟩:=h
  have hne:new = #[]:=by apply Array.eq_empty_of_size_eq_zero;rw[hnl];simp
  subst hne
  obtain⟨base,sCap,hs',hcap⟩: ∃base sCap,s' = .slice base len sCap∧len≤sCap:=by
   cases hs with
   |tT=>exact⟨_,_,rfl,hlc⟩
   |gm=>exact⟨_,_,rfl,hlc⟩
   |lI=>exact⟨_,_,rfl,hlc⟩
   |iT _ _ _ _ _ _ _ hl _=>exact⟨_,_,rfl,hl⟩
   |jN=>exact⟨_,_,rfl,Nat.le_refl _⟩
  refine⟨base,len,sCap,s',w,R,hs',?_,hs,hS,Ext.refl _ _ _⟩
  rw[DJ (by omega),N8]
  subst hs'
  cases base <;> rfl
 rw[if_neg hm0]at h
 split at h
 ·
  split at h
  case isFalse=>cases h
  rename_i hlc
  obtain⟨rfl,rfl⟩:=hlc
  simp only[Option.some.injEq,Prod.mk.injEq]at h
  obtain⟨rfl,rfl⟩:=h
  obtain⟨hs',_,_⟩:=hs.yF
  have:=grow none 0 [] #[] H hs' (by omega) hS (Ext.refl _ _ _) (by subst hs';rfl) .nil (by simp) (by simp) (by simp)
  obtain⟨v',w',R',h1,h2,h3,h4⟩:=this
  exact⟨none,0,0,v',w',R',hs',h1,h2,h3,h4⟩
 ·rename_i b o
  obtain⟨hd,_,_⟩:=hs.gU
  split at h
  ·
   rename_i hin
   cases hst:H.aK b (o+len*size) news with
   |none=>rw[hst]at h;simp at h
   |some H1=>
    rw[hst]at h
    simp only[Option.map_some,Option.some.injEq,Prod.mk.injEq]at h
    obtain⟨rfl,rfl⟩:=h
    obtain⟨w',h1,h2,h3⟩:=hS.aK hd hst hrel P
    have hs2:s' = .slice (some ⟨R.blk b,R.base b+o,none⟩) len cap:=by
     cases hs with
     |gm=>rfl
     |lI=>exfalso;omega
     |iT=>exfalso;unfold dQ at hin;omega
     |jN=>exfalso;unfold dQ at hin;omega
    refine⟨_,len,cap,.slice (some ⟨R.blk b,R.base b+o,none⟩) (len+m) cap,w',R,hs2,?_,.gm b o _ _ hd hin.1,h2,h3⟩
    rw[DJ hin.2,N8]
    simp only[Result.andThen_ok,add_lit]
    rw[Nat.add_assoc,h1]
    rfl
  ·rename_i hin
   split at h
   case h_2=>cases h
   rename_i o9 hfi
   have DK:o9.length=len*size:=by
    simp only[aY]at hfi
    split at hfi
    ·rename_i h0;injection hfi with hfi;subst hfi;simp[h0]
    ·unfold aa.aT at hfi
     split at hfi
     ·split at hfi
      ·injection hfi with hfi;subst hfi;simp;omega
      ·cases hfi
     ·cases hfi
   obtain⟨old,qeW,ho⟩:=Fy (P:=P) hS hs (fun q hq=>by simp[iN]at hq;omega) hfi
   have hold:=qeW (w.drawn+1)
   split at h
   ·
    rename_i yE
    simp only[Option.some.injEq,Prod.mk.injEq]at h
    obtain⟨rfl,rfl⟩:=h
    obtain⟨base,sCap,hs2,hnc⟩: ∃base sCap,s' = .slice base len sCap∧¬ len+m≤sCap:=by
     cases hs with
     |gm=>exact⟨_,_,rfl,fun hq=>hin ⟨yE,hq⟩⟩
     |lI=>exact⟨_,_,rfl,by omega⟩
     |iT=>exfalso;unfold dQ at yE;omega
     |jN=>exfalso;unfold dQ at yE;omega
    obtain⟨v',w',R',h1,h2,h3,h4⟩:=grow base sCap o9 old H hs2 hnc hS (Ext.refl _ _ _) hold ho DK rfl rfl
    exact⟨base,len,sCap,v',w',R',hs2,h1,h2,h3,h4⟩
   ·rename_i yE
    split at h
    case isFalse=>cases h
    rename_i hce
    split at h
    case h_2=>cases h
    rename_i cs hg
    split at h
    case isFalse=>cases h
    rename_i hone
    split at h
    ·
     rename_i hfit
     simp only[Option.some.injEq,Prod.mk.injEq]at h
     obtain⟨rfl,rfl⟩:=h
     have hst:H.aK b (o+len*size) news=some (H.set b (.cells (putAt cs (o+len*size) news) false)):=by
      unfold aa.aK
      rw[hg]
      simp only[]
      rw[if_pos ⟨by rw[hq5,Nat.add_assoc,←Nat.add_mul];exact hfit,hone⟩]
     obtain⟨w',h1,h2,h3⟩:=hS.aK hd hst hrel P
     have qeX:cs.length=R.len b:=by have ho':=hS.obj b hd;rw[hg]at ho';exact ho'.1
     cases hs with
     |gm _ _ _ _ _ hcc=>exact absurd hcc yE
     |lI=>exact absurd (by unfold dQ;omega) yE
     |iT _ _ _ c e' _ he hl hcU k1 k2=>
      obtain rfl:size=e':=by omega
      have hlc:len+m≤c:=by
       have:(len+m)*size≤c*size:=by omega
       exact Nat.le_of_mul_le_mul_right this hq4
      refine⟨_,len,c,.slice (some ⟨R.blk b,R.base b+o,none⟩) (len+m) c,w',R,rfl,?_,.iT b o _ _ _ hd he hlc hcU k1 k2,h2,h3⟩
      rw[DJ hlc,N8]
      simp only[Result.andThen_ok,add_lit]
      rw[Nat.add_assoc,h1]
      rfl
     |jN _ _ e' _ _ he k1=>
      obtain rfl:size=e':=by omega
      exfalso
      have:1≤(0+m)*size:=Nat.mul_pos (by omega) hq4
      omega
    ·rename_i hfit
     split at h
     case isFalse=>cases h
     rename_i hoc
     simp only[Option.some.injEq,Prod.mk.injEq]at h
     obtain⟨rfl,rfl⟩:=h
     obtain⟨hSk,hEk⟩:=Zl hS hd hg
     have qeX:cs.length=R.len b:=by have ho':=hS.obj b hd;rw[hg]at ho';exact ho'.1
     cases hs with
     |gm _ _ _ _ _ hcc=>exact absurd hcc yE
     |lI=>exact absurd (by unfold dQ;omega) yE
     |jN _ _ e' a' _ he k1=>
      obtain rfl:size=e':=by omega
      obtain⟨v',w',R',h1,h2,h3,h4⟩:=grow (some a') 0 o9 old _ rfl (by omega) hSk hEk hold ho DK rfl rfl
      exact⟨_,0,0,v',w',R',rfl,h1,h2,h3,h4⟩
     |iT _ _ _ c e' _ he hl hcU k1 k2=>
      obtain rfl:size=e':=by omega
      by_cases hlc:len+m≤c
      ·obtain⟨w',R',h1,h2,h3,h4⟩:=TA (P:=P) hS hd hg hq4 hone hrel hq5 k1 k2 hlc hcU hfi DK hoc
       refine⟨_,len,c,.slice (some ⟨R.blk b,R.base b+o,none⟩) (len+m) c,w',R',rfl,?_,h2,h3,h4⟩
       rw[DJ hlc,N8]
       simp only[Result.andThen_ok,add_lit]
       rw[h1]
       rfl
      ·obtain⟨v',w',R',h1,h2,h3,h4⟩:=grow _ c o9 old _ rfl hlc hSk hEk hold ho DK rfl rfl
       exact⟨_,len,c,v',w',R',rfl,h1,h2,h3,h4⟩
 ·cases h
end
end
section
section
variable {P:Program} {n:Nat} {R:Ren} {H:aa} {w:World} {T:Env} {a:Act}
def Q6 (P:Program)(R:Ren)(H:aa)(w:World)(s:Sem Next)(v:Value)(H':aa):Prop:=
 ∃v' w' R',(s.run P w = .ok (.value v') w'∨(s.run P w = .ok .skip w'∧v'=undef))∧VR R' v v'∧gT R' H' w'∧Ext R H w R' H' w'
theorem append_eq {nE:Array TypeId}{ty t u e:TypeId}{s' x':Value}{size:Nat}{base:Option Addr}{sLen sCap m:Nat}{d:TypeDesc}
 (hty:nE = #[t,u]) (hu:P.underlying t=some (.slice e)) (hs:bz P e=some size) (hd:P.underlying u=some d) (hnz: ∀k,d ≠ .int k) (hs':s' = .slice base sLen sCap)
 (hlen: ∀w,(Builtin.lenOf x').run P w = .ok m w) (w:World):
 (Builtin.append_ nE ty #[s',x']).run P w=(zV e size false s' base sLen sCap m x' (Builtin.firstCells size m x')).run P w:=by
 subst hty;subst hs'
 unfold Builtin.append_ zV
 simp only[List.getElem?_toArray,List.getElem?_cons_zero,List.getElem?_cons_succ,Sem.run_bind,aH hu,Result.andThen_ok,dM hs,aH hd]
 cases d <;> first|exact absurd rfl (hnz _)|skip
 all_goals
  simp only[Sem.run_pure,Result.andThen_ok]
  rw[if_neg (by decide)]
  simp only[Sem.run_bind,hlen,Result.andThen_ok]
  rfl
def DL (e:TypeId)(size m:Nat)(x:Value):Sem (Array Value):=
 if (!true)=true then Builtin.firstCells size m x
 else if m*size=0 then pure #[]
 else do pure (Builtin.zeroCells (←zeroValue e).cells m)
theorem TB {nE:Array TypeId}{ty t u e:TypeId}{s':Value}{size bytes:Nat}{base:Option Addr}{sLen sCap:Nat}{k kx:IntKind}{q:Int}
 (hty:nE = #[t,u]) (hu:P.underlying t=some (.slice e)) (hs:bz P e=some size) (hb:wZ P e=some bytes) (hd:P.underlying u=some (.int k)) (hs':s' = .slice base sLen sCap)
 (h0:0≤q) (h1:q≤17592186044416) (h2:q*bytes≤17592186044416) (w:World):
 (Builtin.append_ nE ty #[s',.int kx q]).run P w=(zV e size true s' base sLen sCap q.toNat (.int kx q) (DL e size q.toNat (.int kx q))).run P w:=by
 subst hty;subst hs'
 obtain⟨i,hi,hib⟩: ∃i,P.info? e=some i∧i.bytes=bytes:=by
  unfold wZ at hb
  cases hi:P.info? e with
  |none=>simp[hi]at hb
  |some i=>simp[hi]at hb;exact⟨i,rfl,hb⟩
 have hwl:IntKind.i64.wrap q=q:=by simp[IntKind.wrap,IntKind.bits,IntKind.signed];omega
 unfold Builtin.append_ zV
 simp only[List.getElem?_toArray,List.getElem?_cons_zero,List.getElem?_cons_succ,Sem.run_bind,aH hu,Result.andThen_ok,dM hs,aH hd]
 simp only[asInt,asIntOf,pure_bind,hwl,Sem.run_pure,Result.andThen_ok,if_true]
 rw[if_neg (by omega)]
 simp only[Sem.run_bind,run_typeInfo hi,Result.andThen_ok,hib]
 rw[if_neg (by omega)]
 rfl
theorem fe {dst:Option Tmp}{b:Builtin}{args:Array Operand}{nE:Array TypeId}{ty:TypeId}{pos:String}{after:Array Edge}{g:Option (Nat×Bool)}{x:Sem Value}{v':Value}{w':World}
 (hb: ∀cs,builtin b nE ty cs (args.map a.eval)=(do pure (.value (←x)))) (hx:x.run P w = .ok v' w'):
 (execOp a.eval ⟨dst,.call ⟨.builtin b,args,nE⟩,ty,pos,after,g⟩).run P w = .ok (.value v') w':=by
 show(builtin b nE ty _ (args.map a.eval)).run P w=_
 rw[hb]
 simp[hx]
theorem N9 {s s':Value}{m:Nat}(hv:VR R s s')(h:iN s=some m)(w:World):(Builtin.lenOf s').run P w = .ok m w:=by
 unfold iN at h
 split at h
 ·injection h with h;subst h
  obtain⟨x',c',rfl⟩:=hv.tV
  rfl
 ·cases h
theorem uW {r cl cl2:Nat}{es es2:List MapEntry}{es' KH:Array MapEntry}(hS:gT R H w)(hd:R.dom r)(hg:H.get r=some (.map es cl))(hw:w.heap[R.blk r]? =some (.map es' cl))
 (h2:dB R es2 KH.toList) (P:Program): ∃w',(setObj (R.blk r) (.map KH cl2)).run P w = .ok () w'∧gT R (H.set r (.map es2 cl2)) w'∧Ext R H w R (H.set r (.map es2 cl2)) w':=by
 have hlt:R.blk r<w.heap.size:=(Array.getElem?_eq_some_iff.1 hw).1
 refine⟨{w with heap:=w.heap.setIfInBounds (R.blk r) (.map KH cl2)},by simp[setObj,Sem.run,hw],?_⟩
 refine Ph hS hd hg (by unfold live;rw[hg];trivial) (by unfold bL;rw[hg];trivial) ⟨by simp,fun j hj=> ?_,rfl,rfl,rfl⟩ ⟨KH,by simp[hlt],h2⟩ (by simp)
 have:R.blk r≠j:=fun e=>hj e.symm
 simp[Array.getElem?_setIfInBounds_ne this]
theorem KI {dst:Option Tmp}{b:Builtin}{args:Array Operand}{nE:Array TypeId}{ty:TypeId}{pos:String}{after:Array Edge}{g:Option (Nat×Bool)}{io:bO}{v:Value}{H':aa}
 (hS:gT R H w) (hT:iC n R T a.tmps) (hok:mG (Op.call ⟨.builtin b,args,nE⟩).operands.toList=true)
 (hc:jd P (.call ⟨.builtin b,args,nE⟩) ty b nE.toList args.toList=some io) (h:fQ P T H io=some (v,H')):
 Q6 P R H w (execOp a.eval ⟨dst,.call ⟨.builtin b,args,nE⟩,ty,pos,after,g⟩) v H':=by
 unfold jd at hc
 split at hc
 ·exfalso
  split at hc <;> first|(injection hc with hc;subst hc;cases h)|(split at hc <;> first|(injection hc with hc;subst hc;cases h)|cases hc)
 ·exfalso
  split at hc <;> first|(injection hc with hc;subst hc;cases h)|cases hc
 ·
  rename_i t u s x hty hxs
  have hty':=Ky hty
  have KE:=Ky hxs
  subst hty';subst KE
  have hrs:=bf hT (aG hok (x:=s) (by simp[Op.operands,Call.operands]))
  have hrx:=bf hT (aG hok (x:=x) (by simp[Op.operands,Call.operands]))
  split at hc
  case h_2=>cases hc
  rename_i e hu
  split at hc
  ·rename_i e2 size bytes z hu2 hs hb hz
   split at hc
   case isFalse=>cases hc
   rename_i hzs
   injection hc with hc;subst hc
   simp only[fQ]at h
   split at h
   case h_2=>cases h
   rename_i m hm
   cases hf:aY H size m (ev T x)with
   |none=>rw[hf]at h;simp at h
   |some news=>
    rw[hf]at h
    simp only[Option.bind_some]at h
    obtain⟨new,hnew,hrel⟩:=Fy (P:=P) hS hrx (fun q hq=>by rw[hm]at hq;injection hq with hq;omega) hf
    obtain⟨base,sLen,sCap,v',w',R',h1,h2,h3,h4,h5⟩:=Ap (zeros:=false) (x:=a.eval x) hS hrs hb hz hzs h hnew hrel
    refine⟨v',w',R',.inl (fe (fun cs=>rfl) ?_),h3,h4,h5⟩
    have:=append_eq (ty:=ty) (x':=a.eval x) rfl hu hs hu2 (by simp) h1 (fun w=>N9 hrx hm w) w
    simp only[List.map_toArray,List.map_cons,List.map_nil]
    rw[this]
    exact h2
  ·rename_i z hu2 hs hb hz
   split at hc
   case isFalse=>cases hc
   rename_i hzs
   injection hc with hc;subst hc
   simp only[fQ]at h
   split at h
   case h_2=>cases h
   rename_i tx hx
   rw[hx]at hrx
   have hxv:=hrx.Kt
   have hnew: ∀d,(Builtin.firstCells 1 tx.size (a.eval x)).run P {w with drawn:=d} = .ok (tx.data.map fun b:UInt8=>Value.int .u8 b.toNat) {w with drawn:=d}:=by
    intro d
    rw[hxv]
    simp only[Builtin.firstCells]
    have:tx.extract 0 tx.size=tx:=by simp
    rw[this]
    rfl
   obtain⟨base,sLen,sCap,v',w',R',h1,h2,h3,h4,h5⟩:=Ap (zeros:=false) (x:=a.eval x) (new:=tx.data.map fun b:UInt8=>Value.int .u8 b.toNat) hS hrs hb hz hzs h hnew
    (by rw[Array.toList_map];exact eT.Pf _ fun y hy=>by obtain⟨q,_,rfl⟩:=List.mem_map.1 hy;exact .int _ _)
   refine⟨v',w',R',.inl (fe (fun cs=>rfl) ?_),h3,h4,h5⟩
   have:=append_eq (ty:=ty) (x':=a.eval x) (m:=tx.size) rfl hu hs hu2 (by simp) h1 (fun w=>by rw[hxv];rfl) w
   simp only[List.map_toArray,List.map_cons,List.map_nil]
   rw[this]
   exact h2
  ·rename_i k size bytes z hu2 hs hb hz
   split at hc
   case isFalse=>cases hc
   rename_i hzs
   injection hc with hc;subst hc
   simp only[fQ]at h
   split at h
   case h_2=>cases h
   rename_i kx q hx
   rw[hx]at hrx
   have hxv:=hrx.qz
   split at h
   case isFalse=>cases h
   rename_i hq
   have hzl:z.cells.toList.length=size:=by simpa using hzs
   rw[hzl]at h
   have DD:=fun w=>(jD (P:=P) hz w)
   have hnew: ∀d,(DL e size q.toNat (.int kx q)).run P {w with drawn:=d} = .ok (Builtin.zeroCells z.cells q.toNat) {w with drawn:=d}:=by
    intro d
    unfold DL
    rw[if_neg (by decide)]
    by_cases h0:q.toNat*size=0
    ·rw[if_pos h0]
     have:Builtin.zeroCells z.cells q.toNat = #[]:=by apply Array.eq_empty_of_size_eq_zero;rw[mJ,hzs];exact h0
     rw[this]
     rfl
    ·rw[if_neg h0]
     simp only[Sem.run_bind,(DD _).1,Result.andThen_ok,Sem.run_pure]
   obtain⟨base,sLen,sCap,v',w',R',h1,h2,h3,h4,h5⟩:=Ap (zeros:=true) (x:=.int kx q) (app:=DL e size q.toNat (.int kx q)) hS hrs hb hz hzs h hnew (by simpa using zW R (DD w).2 q.toNat)
   refine⟨v',w',R',.inl (fe (fun cs=>rfl) ?_),h3,h4,h5⟩
   have:=TB (ty:=ty) (kx:=kx) (q:=q) rfl hu hs hb hu2 h1 hq.1 hq.2.2 hq.2.1 w
   simp only[List.map_toArray,List.map_cons,List.map_nil,hxv]
   rw[this]
   exact h2
  ·cases hc
 ·
  rename_i t u d s hty hxs
  have hty':=Ky hty
  have KE:=Ky hxs
  subst hty';subst KE
  have hrd:=bf hT (aG hok (x:=d) (by simp[Op.operands,Call.operands]))
  have hrs:=bf hT (aG hok (x:=s) (by simp[Op.operands,Call.operands]))
  split at hc
  case h_2=>cases hc
  rename_i e e2 hu hu2
  cases hsz:bz P e with
  |none=>simp[hsz]at hc
  |some size=>
   simp only[hsz,Option.map_some,Option.some.injEq]at hc
   subst hc
   simp only[fQ]at h
   split at h
   case h_2=>cases h
   rename_i ad dl cp sl hd hl
   rw[hd]at hrd
   cases hf:aY H size (Nat.min sl dl) (ev T s)with
   |none=>rw[hf]at h;simp at h
   |some cs=>
    rw[hf]at h
    simp only[Option.bind_some]at h
    obtain⟨new,N8,hrel⟩:=Fy (P:=P) hS hrs (fun q hq=>by rw[hl]at hq;injection hq with hq;subst hq;exact Nat.min_le_left _ _) hf
    have hnew:=N8 w.drawn
    have hrun: ∀(base:Option Addr) (c':Nat),a.eval d = .slice base dl c'→∀w',((match base with|some a=>storeCells a new.toList|none=>pure ():Sem Unit).run P w = .ok () w') →
     (execOp a.eval ⟨dst,.call ⟨.builtin .copy,#[d,s],#[t,u]⟩,ty,pos,after,g⟩).run P w = .ok (.value (.int .i64 (Nat.min sl dl:Nat))) w':=by
     intro base c' hb w' hst
     refine fe (fun cs=>rfl) ?_
     simp only[List.map_toArray,List.map_cons,List.map_nil,Builtin.copy_,List.getElem?_toArray,List.getElem?_cons_zero,List.getElem?_cons_succ,Sem.run_bind,aH hu,Result.andThen_ok,hb,N9 hrs hl,dM hsz]
     have hnw:(Builtin.firstCells size (Nat.min sl dl) (a.eval s)).run P w = .ok new w:=hnew
     rw[hnw]
     simp only[Result.andThen_ok]
     cases base with
     |none=>simp at hst;subst hst;rfl
     |some x=>
      simp only[Sem.run_bind]
      rw[hst]
      rfl
    split at h
    ·rename_i h0
     simp only[Option.some.injEq,Prod.mk.injEq]at h
     obtain⟨rfl,rfl⟩:=h
     have hne:new = #[]:=by
      apply Array.eq_empty_of_size_eq_zero
      have:=hrel.length
      rw[h0]at this;simpa using this.symm
     obtain⟨base,c',hb⟩:=hrd.tV
     refine⟨_,w,R,.inl (hrun base c' hb w ?_),.int _ _,hS,Ext.refl _ _ _⟩
     subst hne
     cases base <;> rfl
    ·rename_i h0
     split at h
     case h_2=>cases h
     rename_i b o
     cases hst:H.aK b o cs with
     |none=>rw[hst]at h;simp at h
     |some H1=>
      rw[hst]at h
      simp only[Option.map_some,Option.some.injEq,Prod.mk.injEq]at h
      obtain⟨rfl,rfl⟩:=h
      obtain⟨hdd,_,hcase⟩:=hrd.gU
      obtain⟨w',k1,k2,k3⟩:=hS.aK hdd hst hrel P
      rcases hcase with⟨c',hb⟩|⟨hl0,a',hb⟩
      ·exact⟨_,w',R,.inl (hrun _ c' hb w' k1),.int _ _,k2,k3⟩
      ·exfalso
       subst hl0
       apply h0
       have:cs.length=Nat.min sl 0*size:=by
        unfold aY at hf
        split at hf
        ·injection hf with hf;subst hf;simp
        ·split at hf
         ·injection hf with hf;subst hf;simp
         ·rename_i hn;exact absurd (by simp) hn
        ·cases hf
       rw[this];simp
 ·
  rename_i t x hty hxs
  have hty':=Pb hty
  have KE:=Pb hxs
  subst hty';subst KE
  have hrx:=bf hT (aG hok (x:=x) (by simp[Op.operands,Call.operands]))
  split at hc
  case h_2=>cases hc
  rename_i e hu
  cases hz:gz P e with
  |none=>simp[hz]at hc
  |some z=>
   simp only[hz,Option.bind_some]at hc
   split at hc
   case isFalse=>cases hc
   rename_i hzn
   injection hc with hc;subst hc
   simp only[fQ]at h
   have DD:=jD hz w
   split at h
   ·rename_i ln cp hx
    rw[hx]at hrx
    simp only[Option.some.injEq,Prod.mk.injEq]at h
    obtain⟨rfl,rfl⟩:=h
    obtain⟨hv,_,_⟩:=hrx.yF
    refine⟨.tuple #[],w,R,.inl (fe (fun cs=>rfl) ?_),.tuple _ _ .nil,hS,Ext.refl _ _ _⟩
    simp[Builtin.clear_,aH hu,hv]
   ·rename_i b o ln cp hx
    rw[hx]at hrx
    obtain⟨hdd,_,hcase⟩:=hrx.gU
    split at h
    ·rename_i h0
     subst h0
     simp only[Option.some.injEq,Prod.mk.injEq]at h
     obtain⟨rfl,rfl⟩:=h
     obtain⟨base,c',hv⟩:=hrx.tV
     refine⟨.tuple #[],w,R,.inl (fe (fun cs=>rfl) ?_),.tuple _ _ .nil,hS,Ext.refl _ _ _⟩
     cases base <;> simp[Builtin.clear_,aH hu,hv]
    ·rename_i h0
     cases hst:H.aK b o (Builtin.zeroCells z.cells.toList.toArray ln).toList with
     |none=>rw[hst]at h;simp at h
     |some H1=>
      rw[hst]at h
      simp only[Option.map_some,Option.some.injEq,Prod.mk.injEq]at h
      obtain⟨rfl,rfl⟩:=h
      obtain⟨w',k1,k2,k3⟩:=hS.aK hdd hst (zW R DD.2 ln) P
      rcases hcase with⟨c',hv⟩|⟨hl0,_⟩
      ·refine⟨.tuple #[],w',R,.inl (fe (fun cs=>rfl) ?_),.tuple _ _ .nil,k2,k3⟩
       simp only[List.map_toArray,List.map_cons,List.map_nil,Builtin.clear_,List.getElem?_toArray,List.getElem?_cons_zero,Sem.run_bind,aH hu,Result.andThen_ok,hv]
       cases ln with
       |zero=>exact absurd rfl h0
       |succ m=>
        simp only[Sem.run_bind,DD.1,Result.andThen_ok]
        have k1':(storeCells ⟨R.blk b,R.base b+o,none⟩ (Builtin.zeroCells z.cells (m+1)).toList).run P w = .ok () w':=by simpa using k1
        rw[k1']
        rfl
      ·exact absurd hl0 h0
   ·cases h
 ·
  rename_i t t2 m k hty hxs
  have hty':=Ky hty
  have KE:=Ky hxs
  subst hty';subst KE
  have hrm:=bf hT (aG hok (x:=m) (by simp[Op.operands,Call.operands]))
  have hrk:=bf hT (aG hok (x:=k) (by simp[Op.operands,Call.operands]))
  split at hc
  case h_2=>cases hc
  rename_i kt e hu
  injection hc with hc;subst hc
  simp only[fQ]at h
  split at h
  case h_2=>cases h
  rename_i r hm
  rw[hm]at hrm
  split at h
  case h_2=>cases h
  rename_i es cl hg
  split at h
  case isFalse=>cases h
  rename_i hko
  obtain⟨hk1,hk2,hk3,hk4,d,hd⟩:=Ao hko
  have hkk:a.eval k=ev T k:=hrk.uU hk1
  obtain⟨hmv,hdr⟩:a.eval m = .map (some (R.blk r))∧R.dom r:=by
   cases hq:a.eval m <;> rw[hq]at hrm <;> cases hrm
   exact⟨rfl,by assumption⟩
  have ho:=hS.obj r hdr
  rw[hg]at ho
  obtain⟨es',hw,hrel⟩:=ho
  have hset: ∀es2 (KH:Array MapEntry),dB R es2 KH.toList→∃w',(setObj (R.blk r) (.map KH cl)).run P w = .ok () w'∧gT R (H.set r (.map es2 cl)) w'∧Ext R H w R (H.set r (.map es2 cl)) w':=
   fun es2 KH h2=>uW hS hdr hg hw h2 P
  split at h
  ·rename_i i hfi
   simp only[Option.some.injEq,Prod.mk.injEq]at h
   obtain⟨rfl,rfl⟩:=h
   obtain⟨h1,h2⟩:=tY (P:=P) (w:=w) hd hrel hk2 hfi
   have hi:=h2 i rfl
   have hi':i<es'.size:=by simpa using hi
   obtain⟨w',k1,k2,k3⟩:=hset (es.eraseIdx i) (es'.eraseIdxIfInBounds i) (by
    have:=dB.erase hrel i
    rw[Array.eraseIdxIfInBounds,dif_pos hi',Array.toList_eraseIdx]
    exact this)
   refine⟨.tuple #[],w',R,.inl (fe (fun cs=>rfl) ?_),.tuple _ _ .nil,k2,k3⟩
   simp only[List.map_toArray,List.map_cons,List.map_nil,Builtin.delete_,List.getElem?_toArray,List.getElem?_cons_zero,List.getElem?_cons_succ,Sem.run_bind,aH hu,Result.andThen_ok,hmv,hkk,iO P hw]
   rw[hrel.isEmpty,hk3]
   simp only[Result.andThen_ok]
   rw[h1]
   have hge:es'.toList[i]? =some es'[i]:=by simp[hi']
   simp only[Option.bind_some,hge,Option.map_some,Result.andThen_ok,Sem.run_bind,k1,Sem.run_pure]
  ·rename_i hfi
   simp only[Option.some.injEq,Prod.mk.injEq]at h
   obtain⟨rfl,rfl⟩:=h
   obtain⟨h1,h2⟩:=tY (P:=P) (w:=w) hd hrel hk2 hfi
   obtain⟨w',k1,k2,k3⟩:=hset es es' hrel
   refine⟨.tuple #[],w',R,.inl (fe (fun cs=>rfl) ?_),.tuple _ _ .nil,k2,k3⟩
   simp only[List.map_toArray,List.map_cons,List.map_nil,Builtin.delete_,List.getElem?_toArray,List.getElem?_cons_zero,List.getElem?_cons_succ,Sem.run_bind,aH hu,Result.andThen_ok,hmv,hkk,iO P hw]
   rw[hrel.isEmpty,hk3]
   simp only[Result.andThen_ok]
   rw[h1]
   simp only[Option.bind_none,Result.andThen_ok,Sem.run_bind,k1,Sem.run_pure]
  ·cases h
 all_goals first|(injection hc with hc;subst hc;cases h)|cases hc
theorem zX {t kt e:TypeId}{m k x:Operand}{v:Value}{H':aa}(hS:gT R H w)(hT:iC n R T a.tmps)(hu:P.underlying t=some (.map kt e))
 (hom:okO m=true) (hok:okO k=true) (hox:okO x=true) (h:fQ P T H (.mapUpdate kt m k x)=some (v,H')):
 ∃w',(Instr.mapUpdate t (a.eval m) (a.eval k) (a.eval x)).run P w = .ok () w'∧v=undef∧gT R H' w'∧Ext R H w R H' w':=by
 have hrm:=bf hT hom
 have hrk:=bf hT hok
 have hrx:=bf hT hox
 simp only[fQ]at h
 split at h
 case h_2=>cases h
 rename_i r hm
 rw[hm]at hrm
 split at h
 case h_2=>cases h
 rename_i es cl hg
 split at h
 case isFalse=>cases h
 rename_i hko
 obtain⟨hk1,hk2,hk3,hk4,d,hd⟩:=Ao hko
 have hkk:a.eval k=ev T k:=hrk.uU hk1
 obtain⟨hmv,hdr⟩:a.eval m = .map (some (R.blk r))∧R.dom r:=by
  cases hq:a.eval m <;> rw[hq]at hrm <;> cases hrm
  exact⟨rfl,by assumption⟩
 have ho:=hS.obj r hdr
 rw[hg]at ho
 obtain⟨es',hw,hrel⟩:=ho
 split at h
 ·rename_i i hfi
  split at h
  case isFalse=>cases h
  rename_i hsb
  simp only[Option.some.injEq,Prod.mk.injEq]at h
  obtain⟨rfl,rfl⟩:=h
  obtain⟨h1,h2⟩:=tY (P:=P) (w:=w) hd hrel hk2 hfi
  have hi:=h2 i rfl
  have hi':i<es'.size:=by simpa using hi
  have hie:i<es.length:=by rw[hrel.length];exact hi
  obtain⟨w',k1,k2,k3⟩:=uW (es2:=es.modify i fun e=>{e with key:=ev T k,val:=ev T x}) (KH:=es'.modify i fun e=>{e with key:=ev T k,val:=a.eval x}) (cl2:=cl) hS hdr hg hw (by
   rw[Array.toList_modify]
   exact dB.modify (f:=fun e=>{e with key:=ev T k,val:=ev T x}) (f':=fun e=>{e with key:=ev T k,val:=a.eval x}) (fun e e' he=>⟨VR.O8 R hk1,hrx,he.born⟩) hrel i) P
  refine⟨w',?_,rfl,k2,k3⟩
  have hge:es'.toList[i]? =some es'[i]:=by simp[hi']
  have hke:(((es'[i]?).map (·.key)).getD (ev T k))=(((es[i]?).map (·.key)).getD (ev T k)):=by
   obtain⟨e2,he2,her⟩:=hrel.get i es[i] (by simp[hie])
   have h3:es'[i]? =some e2:=by simpa using he2
   rw[h3]
   simp only[Option.map_some,Option.getD_some]
   rw[show es[i]? =some es[i]by simp[hie]]
   simp only[Option.map_some,Option.getD_some]
   exact her.key.uU (hk2 _ (List.getElem_mem hie))
  simp only[Instr.mapUpdate,Sem.run_bind,aH hu,Result.andThen_ok,hmv,hkk,iO P hw]
  rw[hk4]
  simp only[Result.andThen_ok]
  rw[h1]
  simp only[Option.bind_some,hge,Option.map_some,Result.andThen_ok,Sem.run_bind,Instr.keyThatStays,hke,hsb,if_true,Sem.run_pure]
  exact k1
 ·rename_i hfi
  simp only[Option.some.injEq,Prod.mk.injEq]at h
  obtain⟨rfl,rfl⟩:=h
  obtain⟨h1,h2⟩:=tY (P:=P) (w:=w) hd hrel hk2 hfi
  obtain⟨w',k1,k2,k3⟩:=uW (es2:=es++[{key:=ev T k,val:=ev T x,born:=cl}]) (KH:=es'.push {key:=ev T k,val:=a.eval x,born:=cl}) (cl2:=cl+1) hS hdr hg hw (by
   rw[Array.toList_push]
   exact dB.append (.cons (e:={key:=ev T k,val:=ev T x,born:=cl}) (e':={key:=ev T k,val:=a.eval x,born:=cl}) ⟨VR.O8 R hk1,hrx,rfl⟩ .nil) hrel) P
  refine⟨w',?_,rfl,k2,k3⟩
  simp only[Instr.mapUpdate,Sem.run_bind,aH hu,Result.andThen_ok,hmv,hkk,iO P hw]
  rw[hk4]
  simp only[Result.andThen_ok]
  rw[h1]
  simp only[Option.bind_none,Result.andThen_ok]
  exact k1
 ·cases h
theorem qbP {o:Oper}{io:bO}{v:Value}{H':aa}(hS:gT R H w)(hT:iC n R T a.tmps)(hc:iR P o=some io)(h:fQ P T H io=some (v,H')):Q6 P R H w (execOp a.eval o) v H':=by
 unfold iR at hc
 split at hc
 ·cases hc
 rename_i hok
 have hok:mG o.op.operands.toList=true:=by cases hq:mG o.op.operands.toList with|true=>rfl|false=>exact absurd hq hok
 obtain⟨dst,op,ty,pos,after,g⟩:=o
 simp only at hc hok
 cases op with
 |store t x y=>
  simp only[]at hc
  cases hsz:bz P t with
  |none=>simp[hsz]at hc
  |some m=>
   simp only[hsz,Option.map_some,Option.some.injEq]at hc
   subst hc
   have hrx:=bf hT (aG hok (x:=x) (by simp[Op.operands]))
   have hry:=bf hT (aG hok (x:=y) (by simp[Op.operands]))
   simp only[fQ]at h
   split at h
   ·rename_i b o he
    rw[he]at hrx
    obtain⟨hx,hd⟩:=hrx.o5
    split at h
    ·rename_i hln
     cases hst:H.aK b o (ev T y).cells.toList with
     |none=>rw[hst]at h;simp at h
     |some H1=>
      rw[hst]at h
      simp only[Option.map_some,Option.some.injEq,Prod.mk.injEq]at h
      obtain⟨rfl,rfl⟩:=h
      obtain⟨w',k1,k2,k3⟩:=hS.aK hd hst hry.cells P
      refine⟨undef,w',R,.inr ⟨?_,rfl⟩,VR.undef R,k2,k3⟩
      have hsz':(a.eval y).cells.size=m:=by have:=hry.cells.length;simp only[Array.length_toList]at this hln;omega
      simp only[execOp,Instr.storeAt,hx,Instr.sureAddr,pure_bind,storeVar,Sem.run_bind,dM hsz,Result.andThen_ok,hsz']
      rw[if_neg (by simp)]
      rw[k1]
      rfl
    ·cases h
   ·cases h
 |mapUpdate t m k x=>
  simp only[]at hc
  split at hc
  ·rename_i kt e hu
   injection hc with hc;subst hc
   obtain⟨w',k1,rfl,k2,k3⟩:=zX hS hT hu (aG hok (by simp[Op.operands])) (aG hok (by simp[Op.operands])) (aG hok (by simp[Op.operands])) h
   refine⟨undef,w',R,.inr ⟨?_,rfl⟩,VR.undef R,k2,k3⟩
   simp only[execOp,Sem.run_bind,k1,Result.andThen_ok,Sem.run_pure]
  ·cases hc
 |insert t m k x=>
  simp only[]at hc
  split at hc
  ·rename_i kt e hu
   injection hc with hc;subst hc
   obtain⟨w',k1,rfl,k2,k3⟩:=zX hS hT hu (aG hok (by simp[Op.operands])) (aG hok (by simp[Op.operands])) (aG hok (by simp[Op.operands])) h
   refine⟨undef,w',R,.inr ⟨?_,rfl⟩,VR.undef R,k2,k3⟩
   simp only[execOp,Sem.run_bind,k1,Result.andThen_ok,Sem.run_pure]
  ·cases hc
 |call c=>
  simp only[]at hc
  split at hc
  ·injection hc with hc;subst hc;cases h
  ·injection hc with hc;subst hc;cases h
  ·rename_i b hcb
   obtain⟨callee,args,nE⟩:=c
   simp only at hcb
   subst hcb
   exact KI hS hT hok hc h
  ·cases hc
 |select cs b=>simp at hc
 |move x=>simp at hc;subst hc;cases h
 |assign x=>simp at hc;subst hc;cases h
 |pick c x y=>simp at hc;subst hc;cases h
 |alloc t=>cases hz:gz P t <;> simp[hz]at hc;subst hc;cases h
 |box t x=>simp at hc;subst hc;cases h
 |build t parts=>
  simp only[]at hc
  split at hc
  ·rename_i z fs hz hu
   cases hp:mH P fs.toList with
   |none=>simp[hp]at hc
   |some pl=>
    cases hq:fH (pl[·]?) parts.toList with
    |none=>simp[hp,hq]at hc
    |some ps=>simp[hp,hq]at hc;subst hc;cases h
  ·rename_i z k e hz hu
   cases hsz:bz P e with
   |none=>simp[hsz]at hc
   |some s=>
    cases hq:fH (fun i=>some (i*s,s)) parts.toList with
    |none=>simp[hsz,hq]at hc
    |some ps=>simp[hsz,hq]at hc;subst hc;cases h
  ·cases hc
 |buildSlice t len parts=>
  simp only[]at hc
  split at hc
  ·split at hc
   ·split at hc
    ·rename_i e hu _ _ s z hs hz hcond
     cases hq:fH (fun i=>some (i*s,s)) parts.toList with
     |none=>simp[hq]at hc
     |some ps=>simp[hq]at hc;subst hc;cases h
    ·cases hc
   ·cases hc
  ·cases hc
 |load t x=>simp only[]at hc;split at hc <;> simp at hc <;> subst hc <;> cases h
 |nilCheck x=>simp at hc;subst hc;cases h
 |binOp Zh t x y yt=>
  simp only[]at hc
  cases Zh <;> simp only[Option.some.injEq]at hc <;> subst hc <;> first
   |cases h
   |(unfold uT at h;split at h <;> (try split at h) <;> cases h)
 |convert s d x=>
  simp only[]at hc
  split at hc
  ·split at hc <;> simp at hc;subst hc;cases h
  ·split at hc <;> simp at hc;subst hc;cases h
  ·simp at hc;subst hc;cases h
 |makeInterface t x=>simp only[]at hc;split at hc <;> simp at hc;subst hc;cases h
 |makeFunc fn first captured=>cases fn <;> simp at hc <;> subst hc <;> cases h
 |makeMap t r=>cases r <;> simp at hc <;> subst hc <;> cases h
 |makeSlice t l c=>
  simp only[]at hc
  split at hc
  ·split at hc
   ·split at hc
    ·injection hc with hc;subst hc;cases h
    ·cases hc
   ·cases hc
  ·cases hc
 |slice t x lo hi mx=>
  simp only[]at hc
  split at hc
  ·rename_i e hu
   cases hsz:bz P e with
   |none=>simp[hsz]at hc
   |some s=>simp only[hsz,Option.bind_some]at hc;split at hc <;> simp at hc;subst hc;cases h
  ·rename_i k e hu
   cases hsz:bz P e with
   |none=>simp[hsz]at hc
   |some s=>simp only[hsz,Option.bind_some]at hc;split at hc <;> simp at hc;subst hc;cases h
  ·simp at hc;subst hc;cases h
  ·cases hc
 |fieldAddr t x i=>
  simp only[]at hc
  split at hc
  ·split at hc
   ·rename_i f hf
    cases hsz:bz P f.type with
    |none=>simp[hsz]at hc
    |some s=>simp only[hsz,Option.bind_some]at hc;split at hc <;> simp at hc;subst hc;cases h
   ·cases hc
  ·cases hc
 |field t x i=>
  simp only[]at hc
  split at hc
  ·split at hc
   ·split at hc <;> simp at hc <;> subst hc <;> cases h
   ·cases hc
  ·cases hc
 |indexAddr t x i=>
  simp only[]at hc
  split at hc
  ·rename_i e hu;cases hsz:bz P e <;> simp[hsz]at hc;subst hc;cases h
  ·rename_i k e hu
   split at hc
   ·cases hsz:bz P e <;> simp[hsz]at hc;subst hc;cases h
   ·cases hc
  ·cases hc
 |index t x i=>
  simp only[]at hc
  split at hc
  ·simp at hc;subst hc;cases h
  ·split at hc <;> simp at hc <;> subst hc <;> cases h
  ·cases hc
 |lookup t m k ok=>
  simp only[]at hc
  split at hc
  ·rename_i kt e hu;cases hz:gz P e <;> simp[hz]at hc;subst hc;cases h
  ·cases hc
 |typeAssert x xt t ok=>
  simp only[]at hc
  split at hc
  ·cases hc
  ·cases hz:gz P t <;> simp[hz]at hc;subst hc;cases h
  ·cases hc
 |extract x i=>simp at hc;subst hc;cases h
 |range t x=>
  simp only[]at hc
  split at hc
  ·injection hc with hc;subst hc;cases h
  ·cases hc
 |next x s=>
  cases s with
  |true=>simp only[]at hc;cases hc
  |false=>simp only[]at hc;injection hc with hc;subst hc;cases h
 |entry x=>simp only[Option.some.injEq]at hc;subst hc;cases h
 |_=>simp at hc;subst hc;cases h
theorem Q7 {dst:Option Tmp}{t u e:TypeId}{d x:Operand}{ty:TypeId}{pos:String}{after:Array Edge}{g:Option (Nat×Bool)}{v:Value}{H':aa}(hS:gT R H w)(hT:iC n R T a.tmps)
 (hod:okO d=true) (hox:okO x=true) (hu:P.underlying t=some (.slice e)) (hsz:bz P e=some 1) (h:fQ P T H (.jL d x)=some (v,H')):
 Q6 P R H w (execOp a.eval ⟨dst,.call ⟨.builtin .copy,#[d,x],#[t,u]⟩,ty,pos,after,g⟩) v H':=by
 have hrd:=bf hT hod
 have hrx:=bf hT hox
 simp only[fQ]at h
 split at h
 case h_2=>cases h
 rename_i ad dl dc s hd hx
 rw[hd]at hrd
 rw[hx]at hrx
 have hxs:=hrx.Kt
 obtain⟨base,c',hb⟩:=hrd.tV
 have hrun: ∀w',(match base with|some a=>storeCells a ((s.data.toList.take (Nat.min s.size dl)).map fun b:UInt8=>Value.int .u8 b.toNat)|none=>pure ()).run P w = .ok () w' →
  (execOp a.eval ⟨dst,.call ⟨.builtin .copy,#[d,x],#[t,u]⟩,ty,pos,after,g⟩).run P w = .ok (.value (.int .i64 (Nat.min s.size dl:Nat))) w':=by
  intro w' hw'
  refine fe (fun cs=>rfl) ?_
  have h1:(Builtin.lenOf (.string s)).run P w = .ok s.size w:=rfl
  have h2:(Builtin.firstCells 1 (Nat.min s.size dl) (.string s)).run P w = .ok ((s.data.toList.take (Nat.min s.size dl)).map fun b:UInt8=>Value.int .u8 b.toNat).toArray w:=by
   have e:((s.extract 0 (Nat.min s.size dl)).data.map fun b:UInt8=>Value.int .u8 b.toNat)=((s.data.toList.take (Nat.min s.size dl)).map fun b:UInt8=>Value.int .u8 b.toNat).toArray:=by
    rw[ByteArray.data_extract]
    apply Array.toList_inj.1
    simp
   show Result.ok _ w=_
   rw[e]
  simp only[List.map_toArray,List.map_cons,List.map_nil,Builtin.copy_,List.getElem?_toArray,List.getElem?_cons_zero,List.getElem?_cons_succ,Sem.run_bind,aH hu,Result.andThen_ok,hb,hxs,h1,dM hsz,h2]
  cases base with
  |none=>simp only[Sem.run_pure]at hw';injection hw' with _ hw';subst hw';rfl
  |some a=>
   have hw2:(storeCells a ((s.data.toList.take (Nat.min s.size dl)).map fun b:UInt8=>Value.int .u8 b.toNat)).run P w = .ok () w':=hw'
   simp only[Sem.run_bind,hw2,Result.andThen_ok]
   rfl
 split at h
 ·rename_i h0
  simp only[Option.some.injEq,Prod.mk.injEq]at h
  obtain⟨rfl,rfl⟩:=h
  refine⟨_,w,R,.inl (hrun w ?_),.int _ _,hS,Ext.refl _ _ _⟩
  rw[h0]
  cases base <;> rfl
 ·rename_i h0
  split at h
  case h_2=>cases h
  rename_i b o
  cases hst:H.aK b o ((s.data.toList.take (Nat.min s.size dl)).map fun b:UInt8=>Value.int .u8 b.toNat)with
  |none=>rw[hst]at h;simp at h
  |some H1=>
   rw[hst]at h
   simp only[Option.map_some,Option.some.injEq,Prod.mk.injEq]at h
   obtain⟨rfl,rfl⟩:=h
   obtain⟨hdd,_,hcase⟩:=hrd.gU
   obtain⟨w',k1,k2,k3⟩:=hS.aK hdd hst (eT.map _ fun x _=>.int _ _) P
   rcases hcase with⟨c2,hb2⟩|⟨hl0,a',hb2⟩
   ·rw[hb]at hb2
    injection hb2 with hb2 _ _
    subst hb2
    exact⟨_,w',R,.inl (hrun w' k1),.int _ _,k2,k3⟩
   ·exfalso
    subst hl0
    exact h0 (by simp)
theorem Pk {dst:Option Tmp}{t kt e:TypeId}{x:Operand}{ty:TypeId}{pos:String}{after:Array Edge}{g:Option (Nat×Bool)}{v:Value}{H':aa}(hS:gT R H w)(hT:iC n R T a.tmps)
 (hox:okO x=true) (hu:P.underlying t=some (.map kt e)) (h:fQ P T H (.jQ x)=some (v,H')):
 Q6 P R H w (execOp a.eval ⟨dst,.call ⟨.builtin .clear,#[x],#[t]⟩,ty,pos,after,g⟩) v H':=by
 have hrx:=bf hT hox
 simp only[fQ]at h
 split at h
 ·rename_i hx
  rw[hx]at hrx
  simp only[Option.some.injEq,Prod.mk.injEq]at h
  obtain⟨rfl,rfl⟩:=h
  refine⟨.tuple #[],w,R,.inl (fe (fun cs=>rfl) ?_),.tuple _ _ .nil,hS,Ext.refl _ _ _⟩
  simp[Builtin.clear_,aH hu,hrx.map_nil]
 ·rename_i r hx
  rw[hx]at hrx
  obtain⟨hmv,hdr⟩:=hrx.map_some
  split at h
  case h_2=>cases h
  rename_i es cl hg
  simp only[Option.some.injEq,Prod.mk.injEq]at h
  obtain⟨rfl,rfl⟩:=h
  have ho:=hS.obj r hdr
  rw[hg]at ho
  obtain⟨es',hw,hrel⟩:=ho
  obtain⟨w',k1,k2,k3⟩:=uW (es2:=[]) (KH:= #[]) (cl2:=cl) hS hdr hg hw .nil P
  refine⟨.tuple #[],w',R,.inl (fe (fun cs=>rfl) ?_),.tuple _ _ .nil,k2,k3⟩
  simp only[List.map_toArray,List.map_cons,List.map_nil,Builtin.clear_,List.getElem?_toArray,List.getElem?_cons_zero,Sem.run_bind,aH hu,Result.andThen_ok,hmv,iO P hw,k1,Sem.run_pure]
 ·cases h
theorem qdy {o:Oper}{io:bO}{v:Value}{H':aa}(hS:gT R H w)(hT:iC n R T a.tmps)(hc:sU P o=some io)(h:fQ P T H io=some (v,H')):Q6 P R H w (execOp a.eval o) v H':=by
 rcases tZ hc with hc|⟨-,rfl⟩
 ·exact qbP hS hT hc h
 ·obtain⟨dst,op,ty,pos,after,g⟩:=o
  unfold zS at h
  split at h
  ·cases h
  rename_i Q8
  have hok:mG op.operands.toList=true:=by cases hq:mG op.operands.toList with|true=>rfl|false=>exact absurd hq Q8
  clear Q8
  simp only at h hok
  split at h
  case h_2=>cases h
  rename_i c
  obtain⟨callee,args,nE⟩:=c
  simp only at h
  split at h
  ·rename_i t u d s hty hxs
   obtain rfl:=Ky hty
   obtain rfl:=Ky hxs
   split at h
   case h_2=>cases h
   rename_i e hu _
   split at h
   case h_2=>cases h
   rename_i hsz
   exact Q7 hS hT (aG hok (by simp[Op.operands,Call.operands])) (aG hok (by simp[Op.operands,Call.operands])) hu hsz h
  ·rename_i t x hty hxs
   obtain rfl:=Pb hty
   obtain rfl:=Pb hxs
   split at h
   case h_2=>cases h
   rename_i kt e hu
   exact Pk hS hT (aG hok (by simp[Op.operands,Call.operands])) hu h
  ·cases h
  ·cases h
end
end
end Go.Proofs.YtofpmkhcbijilaaGreatDoorI
