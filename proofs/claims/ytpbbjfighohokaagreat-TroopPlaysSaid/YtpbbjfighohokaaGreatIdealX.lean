/- A law's arguments: what is read of them, in the ideal heap. / Walking through ideal code: contexts, heaps that grow, and the words for simp. / Plain laws that walks need: whole numbers, slices' rows. -/
import Derived.Test.YtpbbjfighohokaaGreatIdealU
import Derived.WalkKit
import Derived.ProofKit
import Derived.OpenShut
import Derived.ShutString
import Derived.ChangeOld
import Derived.Below
import Derived.Carry
import Derived.ChangeCalls
import Derived.SizedLaws
namespace Go.Proofs.YtpbbjfighohokaaGreatI
open Go
set_option linter.unusedSimpArgs false
set_option linter.unusedVariables false
section
inductive D where
 |b (x:Bool)
 |i (k:IntKind) (n:Int)
 |s (x:ByteArray)
 |nil
 |sl (len:Nat) (es:List (List D))
inductive Sh where
 |b
 |i (k:IntKind)
 |s
 |sl (bytes size:Nat) (e:List Sh)
mutual
def okD:Sh→D→Prop
 | .b,.b _=>True
 | .i k,.i k' n=>k'=k∧(Lit.int k n).wf=true
 | .s,.s x=>x.size≤reachBytes
 | .sl _ _ _,.nil=>True
 | .sl bytes size e,.sl len es=>len≤es.length∧es.length*bytes≤reachBytes∧es.length≤maxLen∧∀d ∈ es,d.length=size∧iN e d
 |_,_=>False
def iN:List Sh→List D→Prop
 |[],[]=>True
 |q::ss,d::ds=>okD q d∧iN ss ds
 |_,_=>False
end
inductive Qe (H:aa):Value→D→Prop
 |b (x):Qe H (.bool x) (.b x)
 |i (k n):Qe H (.int k n) (.i k n)
 |s (x):Qe H (.string x) (.s x)
 |nil:Qe H (.slice none 0 0) .nil
 |z (id o):Qe H (.slice (some ⟨id,o,none⟩) 0 0) (.sl 0 [])
 |sl (id len es vs):es≠[]→es.length<dY→H.get id=some (.cells vs true)→vs.length=es.flatten.length→(∀(j:Nat) v d,vs[j]? =some v→es.flatten[j]? =some d→Qe H v d) →
   Qe H (.slice (some ⟨id,0,none⟩) len es.length) (.sl len es)
def jV (H:aa)(vs:List Value)(ds:List D):Prop:=vs.length=ds.length∧∀(j:Nat) v d,vs[j]? =some v→ds[j]? =some d→Qe H v d
theorem Qe.mono {H H':aa}(hs:H.sub H'){v:Value}{d:D}(h:Qe H v d):Qe H' v d:=by
 induction h with
 |b x=>exact .b x
 |i k n=>exact .i k n
 |s x=>exact .s x
 |nil=>exact .nil
 |z id o=>exact .z id o
 |sl id len es vs h1 h2 h3 h4 _ ih=>exact .sl id len es vs h1 h2 (hs _ _ h3) h4 ih
theorem jV.mono {H H':aa}(hs:H.sub H'){vs:List Value}{ds:List D}(h:jV H vs ds):jV H' vs ds:=⟨h.1,fun j v d h1 h2=>(h.2 j v d h1 h2).mono hs⟩
theorem jV.nil (H:aa):jV H [] []:=⟨rfl,by simp⟩
theorem jV.one {H:aa}{v:Value}{d:D}(h:Qe H v d):jV H [v] [d]:=⟨rfl,fun j u e h1 h2=>by
 cases j with
 |zero=>simp at h1 h2;subst h1;subst h2;exact h
 |succ j=>simp at h1⟩
theorem jV.append {H:aa}{vs us:List Value}{ds es:List D}(h:jV H vs ds)(k:jV H us es):jV H (vs++us) (ds++es):=by
 refine⟨by simp[h.1,k.1],fun j v d h1 h2=> ?_⟩
 by_cases hj:j<vs.length
 ·rw[List.getElem?_append_left hj]at h1
  rw[List.getElem?_append_left (by rw[←h.1];exact hj)]at h2
  exact h.2 j v d h1 h2
 ·rw[List.getElem?_append_right (by omega)]at h1
  rw[List.getElem?_append_right (by rw[←h.1];omega),←h.1]at h2
  exact k.2 _ v d h1 h2
theorem Io: ∀{a b:List Sh} {x y:List D},iN a x→iN b y→iN (a++b) (x++y)
 |[],_,[],_,_,h=>h
 |[],_,_::_,_,h,_=>by simp[iN]at h
 |_::_,_,[],_,h,_=>by simp[iN]at h
 |_::a,b,d::x,y,h,k=>by
  simp only[iN,List.cons_append]at h ⊢
  exact⟨h.1,Io h.2 k⟩
theorem Ip: ∀{a:List Sh} {x:List D},iN a x→x.length=a.length
 |[],[],_=>rfl
 |[],_::_,h=>by simp[iN]at h
 |_::_,[],h=>by simp[iN]at h
 |_::_,_::_,h=>by simp only[iN]at h;simp[Ip h.2]
def V3 (P:Program)(K:TypeId→Option (List Sh)):List Field→Nat→Option (List Sh)
 |[],_=>some []
 |f::fs,off=>match K f.type with
  |some r=>if f.offset=off∧P.cellsOf f.type=r.length then (V3 P K fs (off+r.length)).map (r ++ ·)else none
  |none=>none
def ZX (P:Program):Nat→TypeId→Option (List Sh)
 |0,_=>none
 |n+1,t=>match P.underlying t with
  |some .bool=>some [.b]
  |some (.int k)=>some [.i k]
  |some .string=>some [.s]
  |some (.slice e)=>match ZX P n e with
   |some l=>if P.cellsOf e=l.length∧0<l.length then some [.sl (P.bytesOf e) l.length l]else none
   |none=>none
  |some (.struct fs)=>match V3 P (ZX P n) fs.toList 0 with
   |some l=>if P.cellsOf t=l.length then some l else none
   |none=>none
  |_=>none
structure Laid (R:Ren)(H:aa)(w:World):Prop where
 Eu:jC R H w
 ro: ∀b,¬ bI H b
section
variable {w:World} {R:Ren} {H:aa}
theorem GG (hS:jC R H w)(o:fK):H.sub (H.alloc o):=by
 intro b q hb
 have hlt:b<H.next:=by
  rcases Nat.lt_or_ge b H.next with h|h
  ·exact h
  ·rw[hS.wf b h]at hb;cases hb
 rw[fG H o hlt];exact hb
theorem Laid.add (h:Laid R H w){blk base size len:Nat}{o:fK}(ho:wW (R.bW H.next blk base size len) (some o) H.next w)(hro: ¬ bI (H.alloc o) H.next):Laid (R.bW H.next blk base size len) (H.alloc o) w:=by
 have hnd: ¬ R.dom H.next:=fun hd=>Nat.lt_irrefl _ (h.Eu.lt _ hd)
 have hle:R.le (R.bW H.next blk base size len):=Ren.vD hnd
 have hrw: ∀b,¬ bI (H.alloc o) b:=by
  intro b hb
  by_cases hbn:b=H.next
  ·subst hbn;exact hro hb
  ·refine h.ro b ?_
   unfold bI at hb ⊢
   have:(H.alloc o).get b=H.get b:=by show(if b=H.next then some o else H.get b)=_;rw[if_neg hbn]
   rw[this]at hb;exact hb
 refine⟨⟨?_,?_,fun b c _ _ _ _ hor=>(hor.elim (hrw b) (hrw c)).elim,?_⟩,hrw⟩
 ·rintro b (hb|rfl)
  ·exact Nat.lt_succ_of_lt (h.Eu.lt b hb)
  ·exact Nat.lt_succ_self _
 ·rintro b hb
  by_cases hbn:b=H.next
  ·subst hbn;rw[iC];exact ho
  ·have hb':=hb.resolve_right hbn
   have:(H.alloc o).get b=H.get b:=by show(if b=H.next then some o else H.get b)=_;rw[if_neg hbn]
   rw[this]
   exact(h.Eu.obj b hb').move hle hb' fun _ hx=>hx
 ·intro b hb
  have hb':H.next+1≤b:=hb
  show(if b=H.next then some o else H.get b)=_
  rw[if_neg (by omega)];exact h.Eu.wf b (by omega)
end
def Lays (w:World)(R:Ren)(H:aa)(cs:List Value)(P:List D→Prop):Prop:=
 ∃R' H' vs ds,R.le R'∧H.sub H'∧Laid R' H' w∧fE R' vs cs∧jV H' vs ds∧P ds
theorem aa.vF {A B C:aa}(h:A.sub B)(k:B.sub C):A.sub C:=fun b o hb=>k b o (h b o hb)
section
variable {Hd:Type} {enc:TypeId×Value→Hd} {P:Program} {w:World}
theorem rW {e:TypeId}: ∀{l:List (DataW Hd)} {d:DataW Hd},d ∈ l→∀x ∈ d.weights P e,x ∈ DataW.weightsAll P e l
 |[],_,h,_,_=>by simp at h
 |a::l,d,h,x,hx=>by
  simp only[DataW.weightsAll]
  rcases List.mem_cons.1 h with rfl|h
  ·exact List.mem_append_left _ hx
  ·exact List.mem_append_right _ (rW h x hx)
theorem Uh: ∀(n:Nat) (t:TypeId) (cs:List Value) (x:DataW Hd×List MemPlace) (m:Nat) (sh:List Sh),DataW.trod enc P w 0 (fun _=>true) true n t cs=some x→ZX P m t=some sh →
 (∀y ∈ x.1.weights P t,y≤reachBytes)→∀R H,Laid R H w→Lays w R H cs (iN sh):=by
 intro n
 induction n with
 |zero=>intro t cs x m sh h;simp[DataW.trod]at h
 |succ n ih=>
  intro t cs x m sh h hsh hw R H hL
  cases m with
  |zero=>simp[ZX]at hsh
  |succ m=>
   simp only[ZX]at hsh
   split at hsh
   ·rename_i hu
    injection hsh with hsh;subst hsh
    obtain⟨b,rfl,_⟩:=DataW.trod_bool hu h
    exact⟨R,H,[.bool b],[.b b],R.le_refl,fun _ _ h=>h,hL,.cons (.bool b) .nil,jV.one (.b b),by simp[iN,okD]⟩
   ·rename_i k hu
    injection hsh with hsh;subst hsh
    obtain⟨z,rfl,_,hz⟩:=DataW.trod_int hu h
    exact⟨R,H,[.int k z],[.i k z],R.le_refl,fun _ _ h=>h,hL,.cons (.int k z) .nil,jV.one (.i k z),by simp[iN,okD,hz]⟩
   ·rename_i hu
    injection hsh with hsh;subst hsh
    obtain⟨s,rfl,rfl,hs⟩:=DataW.trod_string hu h
    refine⟨R,H,[.string s],[.s s],R.le_refl,fun _ _ h=>h,hL,.cons (.string s) .nil,jV.one (.s s),?_⟩
    have:=hw s.data.toList.length (by simp[DataW.weights])
    simp only[iN,okD,and_true]
    simpa using this
   ·
    rename_i e hu
    split at hsh
    case h_2=>cases hsh
    rename_i l hl
    split at hsh
    case isFalse=>cases hsh
    rename_i hcell
    injection hsh with hsh;subst hsh
    rcases DataW.trod_slice hu h with⟨rfl,_⟩|⟨a,len,cap,elems,rest,n',hn,rfl,rfl,_,hlc,hcm,hel,hget,hsp,_⟩
    ·exact⟨R,H,[.slice none 0 0],[.nil],R.le_refl,fun _ _ h=>h,hL,.cons .vk .nil,jV.one .nil,by simp[iN,okD]⟩
    ·injection hn with hn
     subst hn
     obtain⟨hrl,hrest⟩:=hsp rfl
     have hwb:(elems.length+rest.length)*P.bytesOf e≤reachBytes:=by
      refine hw _ ?_
      simp only[DataW.weights,hu,List.length_map]
      exact List.mem_cons_self ..
     by_cases hc0:cap=0
     ·
      subst hc0
      have hl0:len=0:=by omega
      subst hl0
      have hl2:=hL.add (blk:=a.block) (base:=0) (size:=0) (len:=0) (o:=.dead) trivial (by unfold bI;rw[iC];simp)
      refine⟨_,_,[.slice (some ⟨H.next,0,none⟩) 0 0],[.sl 0 []],Ren.vD (fun hd=>Nat.lt_irrefl _ (hL.Eu.lt _ hd)),GG hL.Eu _,hl2,.cons (.mO _ _ _ (.inr rfl)) .nil,jV.one (.z _ _),?_⟩
      simp[iN,okD]
     ·have hone: ∀i,i<cap→∃ci y,w.cells? 0 (a.add (i*P.cellsOf e)) (P.cellsOf e)=some ci∧DataW.trod enc P w 0 (fun _=>true) true n e ci=some y∧∀z ∈ y.1.weights P e,z≤reachBytes:=by
       intro i hi
       by_cases hil:i<len
       ·have h1:=hget i hil
        have h2:elems[i]? =some elems[i]:=by simp[hel,hil]
        rw[h2]at h1
        rw[Option.bind_eq_some_iff]at h1
        obtain⟨ci,h3,h4⟩:=h1
        refine⟨ci,_,h3,h4,fun z hz=>hw z ?_⟩
        simp only[DataW.weights,hu]
        exact List.mem_cons_of_mem _ (List.mem_append_left _ (rW (List.mem_map.2 ⟨_,List.getElem_mem _,rfl⟩) z hz))
       ·have h1:=hrest (i-len) (by omega)
        rw[show len+(i-len)=i by omega]at h1
        have h2:rest[i-len]? =some (rest[i-len]'(by omega)):=by simp
        rw[h2]at h1
        rw[Option.bind_eq_some_iff]at h1
        obtain⟨ci,h3,h4⟩:=h1
        refine⟨ci,_,h3,h4,fun z hz=>hw z ?_⟩
        simp only[DataW.weights,hu]
        exact List.mem_cons_of_mem _ (List.mem_append_right _ (rW (List.mem_map.2 ⟨_,List.getElem_mem _,rfl⟩) z hz))
      have hsz:0<P.cellsOf e:=by omega
      obtain⟨blk,off,spot⟩:=a
      have hc0': ∃c t fr,w.heap[blk]? =some (.cells c t fr)∧spot=none:=by
       obtain⟨ci,y,h1,_⟩:=hone 0 (by omega)
       obtain⟨_,h2,h3⟩:=World.cells?_some h1
       have h4:=h3 0 hsz
       have h5:ci[0]? =some (ci[0]'(by omega)):=by simp
       rw[h5]at h4
       simp only[Nat.zero_mul,Addr.add,if_true,World.cell?]at h4
       split at h4
       ·rename_i c t fr hb
        refine⟨c,t,fr,hb,?_⟩
        cases spot with
        |none=>rfl
        |some q=>simp at h4
       ·cases h4
      obtain⟨c,t,fr,hblk,rfl⟩:=hc0'
      have hadd: ∀p q:Nat,(Addr.add (Addr.add ⟨blk,off,none⟩ p) q)=⟨blk,off+p+q,none⟩:=by
       intro p q
       unfold Addr.add
       by_cases hp:p=0 <;> by_cases hq:q=0 <;> simp[hp,hq]
      have hci: ∀i ci,w.cells? 0 (Addr.add ⟨blk,off,none⟩ (i*P.cellsOf e)) (P.cellsOf e)=some ci→ci=((c.toList.drop off).drop (i*P.cellsOf e)).take (P.cellsOf e)∧off+i*P.cellsOf e+P.cellsOf e≤c.size:=by
       intro i ci h1
       obtain⟨_,h2,h3⟩:=World.cells?_some h1
       have h4: ∀j,j<P.cellsOf e→c[off+i*P.cellsOf e+j]? =ci[j]? :=by
        intro j hj
        rw[←h3 j hj,hadd]
        simp[World.cell?,hblk]
       constructor
       ·apply List.ext_getElem?
        intro j
        by_cases hj:j<P.cellsOf e
        ·rw[←h4 j hj,List.getElem?_take,if_pos hj,List.getElem?_drop,List.getElem?_drop]
         simp[Nat.add_assoc]
        ·rw[List.getElem?_eq_none (by omega),List.getElem?_eq_none (by simp;omega)]
       ·have h5:=h4 (P.cellsOf e-1) (by omega)
        have h6:ci[P.cellsOf e-1]? =some (ci[P.cellsOf e-1]'(by omega)):=by simp
        rw[h6]at h5
        have:=(Array.getElem?_eq_some_iff.1 h5).1
        omega
      have many: ∀k,k≤cap→∃R' H' vs es,R.le R'∧H.sub H'∧Laid R' H' w∧fE R' vs ((c.toList.drop off).take (k*P.cellsOf e))∧jV H' vs (List.flatten es)∧es.length=k∧∀d ∈ es,d.length=l.length∧iN l d:=by
       intro k
       induction k with
       |zero=>intro _;exact⟨R,H,[],[],R.le_refl,fun _ _ h=>h,hL,by simp;exact .nil,jV.nil H,rfl,by simp⟩
       |succ k ihk=>
        intro hk
        obtain⟨R1,H1,vs,es,a1,a2,a3,a4,a5,a6,a7⟩:=ihk (by omega)
        obtain⟨ci,y,h1,h2,h3⟩:=hone k (by omega)
        obtain⟨R2,H2,us,ds,b1,b2,b3,b4,b5,b6⟩:=ih e ci y m l h2 hl h3 R1 H1 a3
        have hcc:=(hci k ci h1).1
        refine⟨R2,H2,vs++us,es++[ds],a1.trans b1,aa.vF a2 b2,b3,?_,?_,by simp[a6],?_⟩
        ·rw[Nat.add_mul,Nat.one_mul,List.take_add,←hcc]
         exact fE.append b4 (a4.mono b1)
        ·simp only[List.flatten_append,List.flatten_cons,List.flatten_nil,List.append_nil]
         exact(a5.mono b2).append b5
        ·intro d hd
         rcases List.mem_append.1 hd with hd|hd
         ·exact a7 d hd
         ·simp at hd;subst hd;exact⟨Ip b6,b6⟩
      obtain⟨R1,H1,vs,es,a1,a2,a3,a4,a5,a6,a7⟩:=many cap (Nat.le_refl _)
      have hend:off+cap*P.cellsOf e≤c.size:=by
       obtain⟨ci,y,h1,_⟩:=hone (cap-1) (by omega)
       have:=(hci _ ci h1).2
       have h2:(cap-1)*P.cellsOf e+P.cellsOf e=cap*P.cellsOf e:=by
        rw[←Nat.succ_mul];congr 1;omega
       omega
      have hvl:vs.length=cap*P.cellsOf e:=by
       rw[a4.length];simp;omega
      have qbX:wW (R1.bW H1.next blk off c.size (cap*P.cellsOf e)) (some (.cells vs true)) H1.next w:=by
       have hnd: ¬ R1.dom H1.next:=fun hd=>Nat.lt_irrefl _ (a3.Eu.lt _ hd)
       refine⟨by simp[Ren.bW,hvl],by simp[Ren.bW,hvl];omega,c,t,fr,by simpa[Ren.bW]using hblk,by simp[Ren.bW],?_,by simp⟩
       have:(R1.bW H1.next blk off c.size (cap*P.cellsOf e)).base H1.next=off:=by simp[Ren.bW]
       rw[this,hvl]
       exact a4.mono (Ren.vD hnd)
      have hl2:=a3.add qbX (by unfold bI;rw[iC];simp)
      have hnd: ¬ R1.dom H1.next:=fun hd=>Nat.lt_irrefl _ (a3.Eu.lt _ hd)
      have qbe:cap<dY:=by have:maxLen=9223372036854775807:=rfl;unfold dY;omega
      refine⟨_,_,[.slice (some ⟨H1.next,0,none⟩) len cap],[.sl len es],a1.trans (Ren.vD hnd),aa.vF a2 (GG a3.Eu _),hl2,.cons ?_ .nil,jV.one ?_,?_⟩
      ·have:=VR.fP (R:=R1.bW H1.next blk off c.size (cap*P.cellsOf e)) H1.next 0 len cap (.inr rfl) qbe
       simpa[Ren.bW]using this
      ·rw[←a6]
       have a5':=a5.mono (GG a3.Eu (.cells vs true))
       refine .sl H1.next len es vs (by intro he;rw[he]at a6;simp at a6;omega) (by omega) (iC _ _) a5'.1 a5'.2
      ·simp only[iN,okD,and_true]
       refine⟨by omega,?_,by omega,?_⟩
       ·rw[a6]
        have:elems.length+rest.length=cap:=by omega
        rw[this]at hwb;exact hwb
       ·intro d hd;exact a7 d hd
   ·
    rename_i fs hu
    split at hsh
    case h_2=>cases hsh
    rename_i l hl
    split at hsh
    case isFalse=>cases hsh
    rename_i hcell
    injection hsh with hsh;subst hsh
    obtain⟨xs,n',hn,rfl,hlen,hxl,hget⟩:=DataW.trod_struct hu h
    injection hn with hn
    subst hn
    have key: ∀(fl:List Field) (off:Nat) (q:List Sh) (ys:List (DataW Hd×List MemPlace)),V3 P (ZX P m) fl off=some q→ys.length=fl.length →
     (∀(i:Nat) (f:Field),fl[i]? =some f→DataW.trod enc P w 0 (fun _=>true) true n f.type ((cs.drop f.offset).take (P.cellsOf f.type))=ys[i]?) →
     (∀z ∈ DataW.weightsEach P (fl.map (·.type)) (ys.map (·.1)),z≤reachBytes)→∀R H,Laid R H w→Lays w R H ((cs.drop off).take q.length) (iN q):=by
     intro fl
     induction fl with
     |nil=>
      intro off q ys hq hyl _ _ R H hL
      simp only[V3,Option.some.injEq]at hq
      subst hq
      exact⟨R,H,[],[],R.le_refl,fun _ _ h=>h,hL,by simp;exact .nil,jV.nil H,by simp[iN]⟩
     |cons f fl ihf=>
      intro off q ys hq hyl hg hww R H hL
      simp only[V3]at hq
      split at hq
      case h_2=>cases hq
      rename_i r hr
      split at hq
      case isFalse=>cases hq
      rename_i hcond
      simp only[Option.map_eq_some_iff]at hq
      obtain⟨q',hq',rfl⟩:=hq
      cases ys with
      |nil=>simp at hyl
      |cons y ys=>
       have h1:=hg 0 f (by simp)
       simp only[List.getElem?_cons_zero]at h1
       simp only[List.map_cons,DataW.weightsEach]at hww
       obtain⟨R1,H1,vs,ds,a1,a2,a3,a4,a5,a6⟩:=ih f.type _ y m r h1 hr (fun z hz=>hww z (List.mem_append_left _ hz)) R H hL
       obtain⟨R2,H2,us,es,b1,b2,b3,b4,b5,b6⟩:=ihf (off+r.length) q' ys hq' (by simpa using hyl) (fun i g hi=>by simpa using hg (i+1) g (by simpa using hi)) (fun z hz=>hww z (List.mem_append_right _ hz)) R1 H1 a3
       refine⟨R2,H2,vs++us,ds++es,a1.trans b1,aa.vF a2 b2,b3,?_,(a5.mono b2).append b5,Io a6 b6⟩
       rw[List.length_append,List.take_add,List.drop_drop]
       rw[hcond.1,hcond.2]at a4
       exact fE.append b4 (a4.mono b1)
    have:=key fs.toList 0 l xs hl (by simpa using hxl) (fun i f hi=>hget i f (by simpa using hi)) (by
     intro z hz
     refine hw z ?_
     simp only[DataW.weights,hu]
     exact hz) R H hL
    rw[List.drop_zero,List.take_of_length_le (by omega)]at this
    exact this
   ·cases hsh
def zk (H:aa)(agg:Bool)(v:Value)(ds:List D):Prop:=match agg with
 |true=> ∃us,v = .agg us∧jV H us.toList ds
 |false=>jV H [v] ds
def pR (H:aa):List (Bool×List Sh)→List Value→List (List D)→Prop
 |[],[],[]=>True
 |(a,sh)::r,v::vs,d::Iq=>zk H a v d∧iN sh d∧pR H r vs Iq
 |_,_,_=>False
theorem zk.mono {H H':aa}(hs:H.sub H'){a:Bool}{v:Value}{ds:List D}(h:zk H a v ds):zk H' a v ds:=by
 cases a with
 |true=>obtain⟨us,h1,h2⟩:=h;exact⟨us,h1,h2.mono hs⟩
 |false=>exact jV.mono hs h
theorem pR.mono {H H':aa}(hs:H.sub H'): ∀{p:List (Bool×List Sh)} {vs:List Value} {Iq:List (List D)},pR H p vs Iq→pR H' p vs Iq
 |[],[],[],_=>trivial
 |(_,_)::_,_::_,_::_,h=>⟨h.1.mono hs,h.2.1,pR.mono hs h.2.2⟩
 |[],_::_,_,h=>h.elim
 |[],[],_::_,h=>h.elim
 |_::_,[],_,h=>h.elim
 |_::_,_::_,[],h=>h.elim
def Qf (P:Program):List TypeId→Option (List (Bool×List Sh))
 |[]=>some []
 |t::ts=>match qH P t,ZX P 20 t,Qf P ts with
  |some a,some sh,some r=>some ((a,sh)::r)
  |_,_,_=>none
theorem Qg {base:Nat}: ∀(ts:List TypeId) (vs:List Value) (ds:List (DataW Hd)) (p:List MemPlace) (Og:List (Bool×List Sh)),DataW.TrodAll enc P w 0 (fun _=>true) true ts vs ds p→Qf P ts=some Og →
 (∀(j:Nat) t v,ts[j]? =some t→vs[j]? =some v→Value.okWide P w .any base t v)→(∀z ∈ DataW.weightsEach P ts ds,z≤reachBytes)→∀R H,Laid R H w →
 ∃R' H' us Iq,R.le R'∧H.sub H'∧Laid R' H' w∧fE R' us vs∧pR H' Og us Iq
 |[],vs,ds,p,Og,h,hp,_,_,R,H,hL=>by
  obtain⟨rfl,rfl,_⟩:=Go.ChangeShapes.trodAll_nil h
  simp only[Qf,Option.some.injEq]at hp
  subst hp
  exact⟨R,H,[],[],R.le_refl,fun _ _ h=>h,hL,.nil,trivial⟩
 |t::ts,vs,ds,p,Og,h,hp,hv,hw,R,H,hL=>by
  obtain⟨v,vs,d,ds,a,b,rfl,rfl,rfl,h1,h2⟩:=Go.ChangeShapes.trodAll_cons h
  simp only[Qf]at hp
  split at hp
  case h_2=>cases hp
  rename_i ag sh r hag hsh hr
  injection hp with hp
  subst hp
  simp only[DataW.weightsEach]at hw
  obtain⟨fuel,hf⟩:=h1
  obtain⟨R1,H1,us,es,a1,a2,a3,a4,a5,a6⟩:=Uh fuel t _ _ 20 sh hf hsh (fun z hz=>hw z (List.mem_append_left _ hz)) R H hL
  obtain⟨R2,H2,vs',Iq,b1,b2,b3,b4,b5⟩:=Qg ts vs ds b r h2 hr (fun j t v hj hj'=>hv (j+1) t v (by simpa using hj) (by simpa using hj')) (fun z hz=>hw z (List.mem_append_right _ hz)) R1 H1 a3
  have hok:=hv 0 t v (by simp) (by simp)
  unfold Value.okWide at hok
  unfold qH at hag
  have hcase:(ag=true∧∃cs,v = .agg cs)∨(ag=false∧v.cells.toList=[v]):=by
   have hone:v.cells.toList.length=1→(∀cs,v ≠ .agg cs)→v.cells.toList=[v]:=by
    intro _ hne
    cases v <;> first|rfl|exact absurd rfl (hne _)
   cases hu:P.underlying t with
   |none=>rw[hu]at hag;simp at hag
   |some dsc=>
    rw[hu]at hag hok
    cases dsc <;> simp at hag <;> subst hag <;> first
     |(obtain⟨cs,hcs,_⟩:=hok;exact .inl ⟨rfl,cs,hcs⟩)
     |(refine .inr ⟨rfl,?_⟩
       cases v <;> first
        |rfl
        |(exfalso;simp only[ZX,hu]at hsh;cases hsh;done)
        |(exfalso;simp only[Cell.okWide,hu,Cell.ok]at hok;done)
        |(exfalso;simp only[Cell.okWide,hu,Cell.ok]at hok;exact hok))
  rcases hcase with⟨rfl,cs,rfl⟩|⟨rfl,hcs⟩
  ·exact⟨R2,H2,.agg us.toArray::vs',es::Iq,a1.trans b1,aa.vF a2 b2,b3,.cons (.agg _ _ (by simpa[Value.cells]using a4.mono b1)) b4,⟨⟨us.toArray,rfl,by simpa using a5.mono b2⟩,a6,b5⟩⟩
  ·rw[hcs]at a4
   cases a4 with
   |cons h3 h4=>
    cases h4
    exact⟨R2,H2,_::vs',es::Iq,a1.trans b1,aa.vF a2 b2,b3,.cons (h3.mono b1) b4,⟨a5.mono b2,a6,b5⟩⟩
theorem Nb {W W':World}(hl:laidOutB P=true)(hb:RowKit.Below W.heap.size W W'): ∀{ts:List TypeId} {vs:List Value} {ds:List (DataW Hd)} {p:List MemPlace},ts.all (fun t=>P.readableRec t&&decide (t<P.types.size))=true →
 DataW.TrodAll enc P W 0 (fun _=>true) true ts vs ds p→DataW.TrodAll enc P W' 0 (fun b=>decide (b<W.heap.size)) true ts vs ds p
 |[],vs,ds,p,_,h=>by
  obtain⟨rfl,rfl,rfl⟩:=Go.ChangeShapes.trodAll_nil h
  exact rfl
 |t::ts,vs,ds,p,ha,h=>by
  obtain⟨v,vs,d,ds,a,b,rfl,rfl,rfl,h1,h2⟩:=Go.ChangeShapes.trodAll_cons h
  simp only[List.all_cons,Bool.and_eq_true,decide_eq_true_eq]at ha
  refine⟨a,b,?_,Nb hl hb (by simpa using ha.2) h2,rfl⟩
  have h1':=h1
  obtain⟨m,hm⟩:=h1
  exact RowKit.Below.trod hl ha.1.1 ha.1.2 h1' hb (DataW.trod_lt m _ _ _ hm)
end
def V4:aa:=⟨fun _=>none,0⟩
def V5:Ren:=⟨fun _=>False,fun _=>0,fun _=>0,fun _=>0,fun _=>0⟩
theorem Sa (w:World):Laid V5 V4 w:=
 ⟨⟨fun _ h=>h.elim,fun _ h=>h.elim,fun _ _ h=>h.elim,fun _ _=>rfl⟩,fun _ h=>h⟩
theorem Sb {C:Checked}{f:FuncId}{fn:Func}{s:ChangeSpec}{CC:bS}{Og:List (Bool×List Sh)}{rt:TypeId}(own:ownKnob C.prog.godebug=none)(hinit:C.prog.inits.idxOf? f=none)(hfn:C.prog.funcs[f]? =some fn)
 (hlaid:laidOutB C.prog=true) (hbody:fn.body.isNone=false) (qbf:Qf C.prog fn.params.toList=some Og) (hread:fn.params.toList.all (fun t=>C.prog.readableRec t&&decide (t<C.prog.types.size))=true)
 (hres:fn.resultTypes = #[rt]) (hrt:C.prog.underlying rt=some .bool) (hvars:s.vars=[]) (hs: ∀(Hd:Type) (ds:List (DataW Hd)),ds.length=fn.params.toList.length→s.fn Hd ds={results:=[.lit (.bool true)],args:=ds})
 (hC:vE C.prog CC) (key: ∀H vs Iq,(∀b,¬ bI H b)→(∀b,H.next≤b→H.get b=none)→pR H Og vs Iq→CC f vs H (fun r _=>r = .bool true))
 {os:Os} (started:os.Started) {Hd:Type} {enc:TypeId×Value→Hd}
 (witness: ∃(w:World) (tape:Tape) (i:Input),w.os=os∧(w.forCall tape i).Shaped C.prog∧i.vars=[]∧Input.okWide C.prog (w.forCall tape i) .any w.heap.size f i ∧
   s.pre6 enc C.prog fn [] false (w.forCall tape i).memory i.args∧Assume.holds {} C.prog (lone (Frame.enter C.prog f i.args .normal) [] (w.forCall tape i)))
 (hbody:fn.body.isNone=false:=by kernel_rfl):
 ReturnsInHanded {} C os f .any (s.pre6 enc C.prog fn [] false) (s.post enc C.prog fn false true false false):=by
 refine returnsInHanded_of_change_sized (C:=C) own started hinit hfn witness ?_
 intro W base args ds gs before hval hW _ hsz _
 have hW':=hW
 obtain⟨p,q,hA,hV,rfl,hfz,hnd⟩:=hW
 rw[hvars]at hV
 obtain⟨rfl,rfl⟩:=Go.ChangeShapes.trodVars_none hV
 have hlen:=Go.trodAll_length hA
 have hwt: ∀z ∈ DataW.weightsEach C.prog fn.params.toList ds,z≤reachBytes:=by
  intro z hz
  have e:s.plain.varTypes C.prog=[]:=by unfold DataSpec.varTypes ChangeSpec.plain;simp[hvars]
  rw[e,List.append_nil,List.append_nil]at hsz
  simpa using List.all_eq_true.1 hsz z hz
 obtain⟨R',H',us,Iq,_,_,hL,hvs,hok⟩:=Qg (base:=base) fn.params.toList args.toList ds p Og hA qbf (fun j t v h1 h2=>hval j t v (by simpa using h1) (by simpa using h2)) hwt V5 V4 (Sa W)
 obtain⟨_,hcall⟩:=(hC f us H' _ (key H' us Iq hL.ro hL.Eu.wf hok)).resolve_right fun hh=>by
  have:=hh.1 fn hfn
  rw[hbody]at this
  cases this
 refine(hcall R' W args hL.Eu hvs).mono fun e W' he=> ?_
 obtain⟨r,r',R2,H2,rfl,rfl,hvr,P5,xk⟩:=he
 have hr:r' = .bool true:=by cases hvr;rfl
 subst hr
 have bel:RowKit.Below W.heap.size W W':=⟨xk.os,xk.tape,xk.output,xk.size,fun k hk=>xk.frame k hk fun b _ hb=>(hL.ro b hb).elim⟩
 have hds:(ds++([]:List (DataW Hd))).length=fn.params.toList.length:=by simpa using hlen.2
 refine⟨_,rfl,ds,[],p++[],[],p,[],hW',?_,?_,?_,bel.frame _,fun h=>by cases h⟩
 ·rw[hs Hd _ hds,hres]
  exact Go.ChangeShapes.trodAll_mk1 (Go.RowKit.shut_bool hrt true)
 ·rw[hs Hd _ hds,List.append_nil]
  exact Nb hlaid bel hread hA
 ·rw[hs Hd _ hds,hvars]
  exact rfl
end
section
structure Ctx where
 P:Program
 IP:FuncId→Option aA
 X:bS
 F:Nat→FuncId
 Ty:Nat→TypeId
 hX:GD X X
def Ctx.C (c:Ctx):bS:=jr c.P c.IP c.X
theorem Ctx.mono (c:Ctx):GD c.C c.C:=jr.mono c.hX
def V6 (rs:List II)(K:Value→aa→Prop):Exit→Env→aa→Prop
 | .ret,T,H| .normal,T,H=> ∃r,dZ T H rs=some r∧K r H
 |_,_,_=>False
theorem XV (g:aA)(K:Value→aa→Prop):Tm g K=V6 g.results K:=by funext e T H;cases e <;> rfl
theorem Ctx.enter (c:Ctx){f:FuncId}{g:aA}(h:c.IP f=some g){args:List Value}{H:aa}{K:Value→aa→Prop}(hn:Nat.ble args.length g.ntmps=true)(hb:AQ c.P c.C g.body (V6 g.results K) (Tk args) H):c.C f args H K:=
 jr.fold c.hX h ⟨Nat.le_of_ble_eq_true hn,by rw[XV];exact hb⟩
structure aa.le (H H':aa):Prop where
 next:H.next≤H'.next
 get: ∀b,b<H.next→H'.get b=H.get b
structure aa.upd (S:List Nat)(H H':aa):Prop where
 next:H.next≤H'.next
 get: ∀b,b<H.next→b ∉ S→H'.get b=H.get b
theorem aa.le_refl (H:aa):H.le H:=⟨Nat.le_refl _,fun _ _=>rfl⟩
theorem aa.le.trans {A B C:aa}(h:A.le B)(k:B.le C):A.le C:=⟨Nat.le_trans h.next k.next,fun b hb=>(k.get b (Nat.lt_of_lt_of_le hb h.next)).trans (h.get b hb)⟩
theorem aa.aj (H:aa)(o:fK):H.le (H.alloc o):=⟨Nat.le_succ _,fun b hb=>fG H o hb⟩
theorem aa.le.alloc {A B:aa}(h:A.le B)(o:fK):A.le (B.alloc o):=h.trans (B.aj o)
theorem aa.le.set {A B:aa}(h:A.le B){i:Nat}(hi:A.next≤i)(o:fK):A.le (B.set i o):=⟨h.next,fun b hb=>by
 show(if b=i then some o else B.get b)=_
 rw[if_neg (by omega)];exact h.get b hb⟩
theorem aa.iE (S:List Nat)(H:aa):aa.upd S H H:=⟨Nat.le_refl _,fun _ _ _=>rfl⟩
theorem aa.le.upd {A B:aa}(h:A.le B)(S:List Nat):aa.upd S A B:=⟨h.next,fun b hb _=>h.get b hb⟩
theorem aa.upd.alloc {S:List Nat}{A B:aa}(h:aa.upd S A B)(o:fK):aa.upd S A (B.alloc o):=
 ⟨Nat.le_trans h.next (Nat.le_succ _),fun b hb hs=>by rw[fG B o (Nat.lt_of_lt_of_le hb h.next)];exact h.get b hb hs⟩
theorem aa.upd.set {S:List Nat}{A B:aa}(h:aa.upd S A B){i:Nat}(hi:A.next≤i∨i ∈ S)(o:fK):aa.upd S A (B.set i o):=⟨h.next,fun b hb hs=>by
 show(if b=i then some o else B.get b)=_
 rw[if_neg (by rintro rfl;rcases hi with hi|hi;omega;exact hs hi)];exact h.get b hb hs⟩
theorem YX (H:aa)(o:fK):(H.alloc o).next=H.next+1:=rfl
theorem YY (H:aa)(i:Nat)(o:fK):(H.set i o).next=H.next:=rfl
theorem YV (H:aa)(o:fK)(b:Nat):(H.alloc o).get b=if b=H.next then some o else H.get b:=rfl
theorem YW (H:aa)(i:Nat)(o:fK)(b:Nat):(H.set i o).get b=if b=i then some o else H.get b:=rfl
theorem YC (T:Env)(d:Nat)(v:Value)(t:Nat):(T.put (some d) v) t=if t=d then v else T t:=rfl
theorem YD (T:Env)(v:Value):T.put none v=T:=rfl
theorem Yz (T:Env)(t:Nat):ev T (.tmp t)=T t:=rfl
theorem YA (T:Env)(v:Value):ev T (.const v)=v:=rfl
theorem YB (T:Env)(f:FuncId):ev T (.func f) = .func (.func f) #[] #[]:=rfl
theorem YE (l:List Value)(t:Nat):Tk l t=l.getD t undef:=rfl
section
variable {P:Program} {C:bS}
def Ui (P:Program)(C:bS)(r:Option Value)(d:Option Nat)(os:List aN)(K:Env→aa→Prop)(T:Env)(H:aa):Prop:=∃v,r=some v∧fe P C os K (T.put d v) H
def V7 (P:Program)(C:bS)(r:Option (fK×(Nat→Value)))(d:Option Nat)(os:List aN)(K:Env→aa→Prop)(T:Env)(H:aa):Prop:=∃x,r=some x∧fe P C os K (T.put d (x.2 H.next)) (H.alloc x.1)
def V8 (P:Program)(C:bS)(r:Option (Value×aa))(d:Option Nat)(os:List aN)(K:Env→aa→Prop)(T:Env):Prop:=∃x,r=some x∧fe P C os K (T.put d x.1) x.2
def Tv (P:Program)(C:bS)(f:FuncId)(args:List Value)(d:Option Nat)(os:List aN)(K:Env→aa→Prop)(T:Env)(H:aa):Prop:=C f args H fun v H'=>fe P C os K (T.put d v) H'
def qan (P:Program)(C:bS)(f:Value)(args:List Value)(d:Option Nat)(os:List aN)(K:Env→aa→Prop)(T:Env)(H:aa):Prop:=match f with
 | .func (.func g) a b=>Tv P C g (a.toList++args++b.toList) d os K T H
 |_=>False
def V9 (P:Program)(C:bS)(b:Bool)(d:Option Nat)(o:bZ)(os:List aN)(K:Env→aa→Prop)(T:Env)(H:aa):Prop:=match b with
 |true=>NQ P C T H o fun v H'=>fe P C os K (T.put d v) H'
 |false=>fe P C os K (T.put d undef) H
def qao (P:Program)(C:bS)(v:Value)(a b:qR)(Q:Exit→Env→aa→Prop)(T:Env)(H:aa):Prop:=match v with
 | .bool true=>AQ P C a Q T H
 | .bool false=>AQ P C b Q T H
 |_=>False
def XW (r:Option Value)(K:Value→aa→Prop)(H:aa):Prop:=∃v,r=some v∧K v H
def Wd (v:Value)(w:Bool):Bool:=match v with
 | .bool b=>b == w
 |_=>false
variable {Q:Exit→Env→aa→Prop} {N K:Env→aa→Prop} {T:Env} {H:aa} {a b:qR} {d:Option Nat} {o:bZ} {os:List aN} {g:Option (Nat×Bool)}
theorem J0:AQ P C .skip Q T H=Q .normal T H:=rfl
theorem J1 {l:List aN}:AQ P C (.ops l) Q T H=fe P C l (Q .normal) T H:=rfl
theorem J2 {l:List (aN×List aN)}:AQ P C (.draw l) Q T H=bM P C l (Q .normal) T H:=rfl
theorem J3:AQ P C (.seq a b) Q T H=AQ P C a (KD (AQ P C b Q) Q) T H:=rfl
theorem J4 {c:Operand}:AQ P C (.cond c a b) Q T H=qao P C (ev T c) a b Q T H:=rfl
theorem J5 {id:Nat}:AQ P C (.block id a) Q T H=AQ P C a (Dk id Q) T H:=rfl
theorem J6 {id:Nat}:AQ P C (.exit id) Q T H=Q (.exit id) T H:=rfl
theorem J7:AQ P C .ret Q T H=Q .ret T H:=rfl
theorem J8:KD N Q .normal T H=N T H:=rfl
theorem J9:KD N Q .ret T H=Q .ret T H:=rfl
theorem Ja {id:Nat}:KD N Q (.exit id) T H=Q (.exit id) T H:=rfl
theorem Jb {id:Nat}:Dk id Q .normal T H=Q .normal T H:=rfl
theorem Jc {id:Nat}:Dk id Q .ret T H=Q .ret T H:=rfl
theorem Jd {id id':Nat}:Dk id Q (.exit id') T H=if id'=id then Q .normal T H else Q (.exit id') T H:=rfl
theorem Je:qao P C (.bool true) a b Q T H=AQ P C a Q T H:=rfl
theorem Jf:qao P C (.bool false) a b Q T H=AQ P C b Q T H:=rfl
theorem Jg:dI T none=true:=rfl
theorem Jh {d:Nat}{w:Bool}:dI T (some (d,w))=Wd (T d) w:=rfl
theorem Ji {b w:Bool}:Wd (.bool b) w=(b == w):=rfl
theorem Jj {w:Bool}:Wd undef w=false:=rfl
theorem Jk:fe P C [] K T H=K T H:=rfl
theorem Jl:fe P C (⟨d,o,g⟩::os) K T H=V9 P C (dI T g) d o os K T H:=by unfold V9;rfl
theorem Jm:V9 P C false d o os K T H=fe P C os K (T.put d undef) H:=rfl
def runK (P:Program)(C:bS)(k:Vq)(d:Option Nat)(o:bZ)(os:List aN)(K:Env→aa→Prop)(T:Env)(H:aa):Prop:=match k with
 | .rd=>Ui P C (bL P T H o) d os K T H
 | .al=>V7 P C (jq T o) d os K T H
 | .ac=>V8 P C (kZ P T H o) d os K T
 | .ca=>rR C T H (fun v H'=>fe P C os K (T.put d v) H') o
theorem Jn:V9 P C true d o os K T H=runK P C o.kind d o os K T H:=by unfold V9 NQ runK Ui V7 V8;simp only[];cases o.kind <;> rfl
theorem Jo:runK P C .rd d o os K T H=Ui P C (bL P T H o) d os K T H:=rfl
theorem Jp:runK P C .al d o os K T H=V7 P C (jq T o) d os K T H:=rfl
theorem Jq:runK P C .ac d o os K T H=V8 P C (kZ P T H o) d os K T:=rfl
theorem Jr {f:FuncId}{args:List Operand}:runK P C .ca d (.call f args) os K T H=Tv P C f (args.map (ev T)) d os K T H:=rfl
theorem Js {f:Operand}{args:List Operand}:runK P C .ca d (.nO f args) os K T H=qan P C (ev T f) (args.map (ev T)) d os K T H:=by unfold runK qan;simp only[rR];generalize ev T f=x;split <;> first|rfl|(split <;> simp_all)
theorem Jt {x:Operand}:runK P C .ca d (.rangeMap x) os K T H=wS H (fun v H'=>fe P C os K (T.put d v) H') (ev T x):=rfl
theorem Ju {x:Operand}:runK P C .ca d (.wQ x) os K T H=rQ H (fun v H'=>fe P C os K (T.put d v) H') (ev T x):=rfl
theorem Jv {x:Operand}:runK P C .ca d (.rP x) os K T H=uu H (fun v H'=>fe P C os K (T.put d v) H') (ev T x):=rfl
theorem Jw {v:Value}:Ui P C (some v) d os K T H=fe P C os K (T.put d v) H:=by simp[Ui]
theorem Jx {x:fK}{mk:Nat→Value}:V7 P C (some (x,mk)) d os K T H=fe P C os K (T.put d (mk H.next)) (H.alloc x):=by simp[V7]
theorem Jy {v:Value}{H':aa}:V8 P C (some (v,H')) d os K T=fe P C os K (T.put d v) H':=by simp[V8]
theorem Jz {f:FuncId}{x y:Array Value}{args:List Value}:qan P C (.func (.func f) x y) args d os K T H=Tv P C f (x.toList++args++y.toList) d os K T H:=rfl
theorem JA {rs:List II}{K:Value→aa→Prop}:V6 rs K .ret T H=XW (dZ T H rs) K H:=rfl
theorem JB {rs:List II}{K:Value→aa→Prop}:V6 rs K .normal T H=XW (dZ T H rs) K H:=rfl
theorem JC {v:Value}{K:Value→aa→Prop}:XW (some v) K H=K v H:=by simp[XW]
theorem av {f:FuncId}{args:List Value}(h:C f args H fun v H'=>fe P C os K (T.put d v) H'):Tv P C f args d os K T H:=h
def dO (P:Program)(C:bS)(r:Option Value)(d:Option Nat)(st:List aN)(os:List (aN×List aN))(K:Env→aa→Prop)(T:Env)(H:aa):Prop:=∃v,r=some v∧dx P (T.put d v) H st∧bM P C os K (T.put d v) H
def dA (P:Program)(C:bS)(r:Option (fK×(Nat→Value)))(d:Option Nat)(st:List aN)(os:List (aN×List aN))(K:Env→aa→Prop)(T:Env)(H:aa):Prop:=∃x,r=some x∧dx P (T.put d (x.2 H.next)) (H.alloc x.1) st∧bM P C os K (T.put d (x.2 H.next)) (H.alloc x.1)
def dX (P:Program)(C:bS)(r:Option (Value×aa))(d:Option Nat)(st:List aN)(os:List (aN×List aN))(K:Env→aa→Prop)(T:Env):Prop:=∃x,r=some x∧dx P (T.put d x.1) x.2 st∧bM P C os K (T.put d x.1) x.2
def Le (P:Program)(C:bS)(f:FuncId)(args:List Value)(d:Option Nat)(st:List aN)(os:List (aN×List aN))(K:Env→aa→Prop)(T:Env)(H:aa):Prop:=C f args H fun v H'=>match st with
 |[]=>bM P C os K (T.put d v) H'
 |_=>dx P (T.put d v) H' st∧bM P C os K (T.put d v) H'
def dF (P:Program)(C:bS)(f:Value)(args:List Value)(d:Option Nat)(st:List aN)(os:List (aN×List aN))(K:Env→aa→Prop)(T:Env)(H:aa):Prop:=match f with
 | .func (.func g) a b=>Le P C g (a.toList++args++b.toList) d st os K T H
 |_=>False
def dG (P:Program)(C:bS)(b:Bool)(d:Option Nat)(o:bZ)(st:List aN)(os:List (aN×List aN))(K:Env→aa→Prop)(T:Env)(H:aa):Prop:=match b with
 |true=>NQ P C T H o fun v H'=>match st with
  |[]=>bM P C os K (T.put d v) H'
  |_=>dx P (T.put d v) H' st∧bM P C os K (T.put d v) H'
 |false=>bM P C os K (T.put d undef) H
variable {st:List aN} {ds:List (aN×List aN)}
theorem Nc {T:Env}{p:Prop}:(match st with|[]=>p|_=>dx P T H st∧p)=(dx P T H st∧p):=by cases st <;> simp[dx]
theorem JD:bM P C [] K T H=K T H:=rfl
theorem JE:bM P C ((⟨d,o,g⟩,st)::ds) K T H=dG P C (dI T g) d o st ds K T H:=by unfold dG;rfl
theorem JF:dG P C false d o st ds K T H=bM P C ds K (T.put d undef) H:=rfl
def dK (P:Program)(C:bS)(k:Vq)(d:Option Nat)(o:bZ)(st:List aN)(os:List (aN×List aN))(K:Env→aa→Prop)(T:Env)(H:aa):Prop:=match k with
 | .rd=>dO P C (bL P T H o) d st os K T H
 | .al=>dA P C (jq T o) d st os K T H
 | .ac=>dX P C (kZ P T H o) d st os K T
 | .ca=>rR C T H (fun v H'=>match st with
   |[]=>bM P C os K (T.put d v) H'
   |_=>dx P (T.put d v) H' st∧bM P C os K (T.put d v) H') o
theorem JG:dG P C true d o st ds K T H=dK P C o.kind d o st ds K T H:=by unfold dG NQ dK dO dA dX;simp only[Nc];cases o.kind <;> rfl
theorem JH:dK P C .rd d o st ds K T H=dO P C (bL P T H o) d st ds K T H:=rfl
theorem JI:dK P C .al d o st ds K T H=dA P C (jq T o) d st ds K T H:=rfl
theorem JJ:dK P C .ac d o st ds K T H=dX P C (kZ P T H o) d st ds K T:=rfl
theorem JK {f:FuncId}{args:List Operand}:dK P C .ca d (.call f args) st ds K T H=Le P C f (args.map (ev T)) d st ds K T H:=rfl
theorem JL {f:Operand}{args:List Operand}:dK P C .ca d (.nO f args) st ds K T H=dF P C (ev T f) (args.map (ev T)) d st ds K T H:=by unfold dK dF;simp only[rR];generalize ev T f=x;split <;> first|rfl|(split <;> simp_all)
theorem JM {v:Value}:dO P C (some v) d st ds K T H=(dx P (T.put d v) H st∧bM P C ds K (T.put d v) H):=by simp[dO]
theorem JN {x:fK}{mk:Nat→Value}:dA P C (some (x,mk)) d st ds K T H=(dx P (T.put d (mk H.next)) (H.alloc x) st∧bM P C ds K (T.put d (mk H.next)) (H.alloc x)):=by simp[dA]
theorem JO {v:Value}{H':aa}:dX P C (some (v,H')) d st ds K T=(dx P (T.put d v) H' st∧bM P C ds K (T.put d v) H'):=by simp[dX]
theorem JP {f:FuncId}{x y:Array Value}{args:List Value}:dF P C (.func (.func f) x y) args d st ds K T H=Le P C f (x.toList++args++y.toList) d st ds K T H:=rfl
theorem aI {f:FuncId}{args:List Value}(hC:GD C C)(h:C f args H fun v H'=>dx P (T.put d v) H' st∧bM P C ds K (T.put d v) H'):Le P C f args d st ds K T H:=by
 unfold Le
 refine hC _ _ _ _ _ (fun v H' k=> ?_) h
 rw[Nc];exact k
theorem JQ:dx P T H []=True:=rfl
theorem JR {o:aN}:dx P T H [o]=aQ P T H o:=rfl
theorem JS {o p:aN}{os:List aN}:dx P T H (o::p::os)=(aQ P T H o∧dx P T H (p::os)):=rfl
end
end
section
theorem wrap64 {n:Int}(h: -9223372036854775808≤n)(k:n<9223372036854775808):IntKind.i64.wrap n=n:=by
 have e1:(2 ^ IntKind.i64.bits:Int)=18446744073709551616:=by decide
 have e2:(2 ^ (IntKind.i64.bits-1):Int)=9223372036854775808:=by decide
 unfold IntKind.wrap
 simp only[e1,e2,IntKind.signed,Bool.true_and]
 by_cases hn:0≤n
 ·have:n % 18446744073709551616=n:=by omega
  rw[this]
  simp only[ge_iff_le]
  rw[if_neg (by simp;omega)]
 ·have:n % 18446744073709551616=n+18446744073709551616:=by omega
  rw[this,if_pos (by simp;omega)]
  omega
def qJ (H:aa)(size:Nat)(v:Value)(rows:List (List Value)):Prop:=
 ∃a cap,v = .slice a rows.length cap∧(rows≠[]→∃b o cs ro,a=some ⟨b,o,none⟩∧b<H.next∧H.get b=some (.cells cs ro) ∧
  ∀i r,rows[i]? =some r→r.length=size∧(cs.drop (o+i*size)).take size=r∧o+i*size+size≤cs.length)
theorem qJ.le {H H':aa}{size:Nat}{v:Value}{rows:List (List Value)}(h:qJ H size v rows)(hl:H.le H'):qJ H' size v rows:=by
 obtain⟨a,cap,h1,h2⟩:=h
 refine⟨a,cap,h1,fun hne=> ?_⟩
 obtain⟨b,o,cs,ro,h3,h4,h5,h6⟩:=h2 hne
 exact⟨b,o,cs,ro,h3,Nat.lt_of_lt_of_le h4 hl.next,by rw[hl.get b h4];exact h5,h6⟩
theorem win {cs r:List Value}{p n:Nat}(h:(cs.drop p).take n=r)(k m:Nat)(hk:k+m≤n):(cs.drop (p+k)).take m=(r.drop k).take m:=by
 subst h
 rw[List.drop_take,List.take_take,List.drop_drop,Nat.min_eq_left (by omega)]
def qbY (k:IntKind)(a b:Int):Int:=k.wrap (BitVec.ofInt k.bits a &&& BitVec.ofInt k.bits b).toNat
def orW (k:IntKind)(a b:Int):Int:=k.wrap (BitVec.ofInt k.bits a ||| BitVec.ofInt k.bits b).toNat
def qbZ (k:IntKind)(a b:Int):Int:=k.wrap (BitVec.ofInt k.bits a ^^^ BitVec.ofInt k.bits b).toNat
def qb0 (k:IntKind)(a b:Int):Int:=k.wrap (a*2 ^ min b.toNat k.bits)
def XX (k:IntKind)(a b:Int):Int:=a.fdiv (2 ^ min b.toNat k.bits)
section
variable {k:IntKind} {a b:Int}
theorem YF:wR .add k a b=some (.int k (k.wrap (a+b))):=rfl
theorem YG:wR .sub k a b=some (.int k (k.wrap (a-b))):=rfl
theorem YH:wR .mul k a b=some (.int k (k.wrap (a*b))):=rfl
theorem YI:wR .quo k a b=if b=0 then none else some (.int k (k.wrap (a.tdiv b))):=rfl
theorem YJ:wR .rem k a b=if b=0 then none else some (.int k (a.tmod b)):=rfl
theorem YK:wR .and k a b=some (.int k (qbY k a b)):=rfl
theorem YL:wR .or k a b=some (.int k (orW k a b)):=rfl
theorem YM:wR .xor k a b=some (.int k (qbZ k a b)):=rfl
theorem YN:wR .eql k a b=some (.bool (decide (a=b))):=rfl
theorem YO:wR .neq k a b=some (.bool (decide (a≠b))):=rfl
theorem YP:wR .lss k a b=some (.bool (decide (a<b))):=rfl
theorem YQ:wR .leq k a b=some (.bool (decide (a≤b))):=rfl
theorem YR:wR .gtr k a b=some (.bool (decide (b<a))):=rfl
theorem YS:wR .geq k a b=some (.bool (decide (b≤a))):=rfl
theorem YT:Vp .shl k a b=if b<0 then none else some (.int k (qb0 k a b)):=rfl
theorem YU:Vp .shr k a b=if b<0 then none else some (.int k (XX k a b)):=rfl
end
section
variable {k:IntKind} {n:Int} {b:Bool} {fk:FloatKind} {x y:Nat} {s:ByteArray} {a:Option Addr} {r:Option Nat} {fn:Fn} {p q:Array Value} {t:TypeId} {v:Value} {l:List UInt8}
theorem YZ:cO (.bool b)=true:=rfl
theorem B0:Value.cells (.bool b) = #[.bool b]:=rfl
theorem B1:cO (.int k n)=true:=rfl
theorem B2:Value.cells (.int k n) = #[.int k n]:=rfl
theorem B3:cO (.float fk x)=true:=rfl
theorem B4:Value.cells (.float fk x) = #[.float fk x]:=rfl
theorem B5:cO (.complex fk x y)=true:=rfl
theorem B6:Value.cells (.complex fk x y) = #[.complex fk x y]:=rfl
theorem B7:cO (.string s)=true:=rfl
theorem B8:Value.cells (.string s) = #[.string s]:=rfl
theorem B9:cO (.pointer a)=true:=rfl
theorem Ba:Value.cells (.pointer a) = #[.pointer a]:=rfl
theorem Bb:cO (.slice a x y)=true:=rfl
theorem Bc:Value.cells (.slice a x y) = #[.slice a x y]:=rfl
theorem Bd:cO (.map r)=true:=rfl
theorem Be:Value.cells (.map r) = #[.map r]:=rfl
theorem Bf:cO (.func fn p q)=true:=rfl
theorem Bg:Value.cells (.func fn p q) = #[.func fn p q]:=rfl
theorem Bh:cO (.nilFunc)=true:=rfl
theorem Bi:Value.cells (.nilFunc) = #[.nilFunc]:=rfl
theorem Bj:cO (.iface t v)=true:=rfl
theorem Bk:Value.cells (.iface t v) = #[.iface t v]:=rfl
theorem Bl:cO (.nilIface)=true:=rfl
theorem Bm:Value.cells (.nilIface) = #[.nilIface]:=rfl
theorem Bn:cO (NP l)=true:=rfl
theorem Bo:Value.cells (NP l) = #[NP l]:=rfl
theorem Bp:Value.cells (.agg p)=p:=rfl
end
def Qh (P:Program)(H:aa)(kt:TypeId)(zero:Value)(ok:Bool)(mv kv:Value):Option Value:=
 match qj H mv with
  |some es=>
   if CW P kt kv es=true then
    match qU P kt kv es 0 with
    |some (some i)=>match es[i]? with
     |some e=>some (if ok then .tuple #[e.val,.bool true]else e.val)
     |none=>none
    |some none=>some (if ok then .tuple #[zero,.bool false]else zero)
    |none=>none
   else none
  |none=>none
def Uk (P:Program)(H:aa)(kt:TypeId)(mv kv vv:Value):Option (Value×aa):=
 match mv with
  | .map (some r)=>match H.get r with
    |some (.map es clock)=>
     if CW P kt kv es=true then
      match qU P kt kv es 0 with
      |some (some i)=>
       if Instr.sameBits 10000 (((es[i]?).map (·.key)).getD kv) kv=true then
        some (undef,H.set r (.map (es.modify i fun e=>{e with key:=kv,val:=vv}) clock))else none
      |some none=>some (undef,H.set r (.map (es++[{key:=kv,val:=vv,born:=clock}]) (clock+1)))
      |none=>none
     else none
    |_=>none
  |_=>none
def XY (P:Program)(H:aa)(kt:TypeId)(mv kv:Value):Option (Value×aa):=
 match mv with
  | .map (some r)=>match H.get r with
    |some (.map es clock)=>
     if CW P kt kv es=true then
      match qU P kt kv es 0 with
      |some (some i)=>some (.tuple #[],H.set r (.map (es.eraseIdx i) clock))
      |some none=>some (.tuple #[],H.set r (.map es clock))
      |none=>none
     else none
    |_=>none
  |_=>none
theorem Yq {P:Program}{T:Env}{H:aa}{kt:TypeId}{zero:Value}{ok:Bool}{m k:Operand}:bL P T H (.lookup kt zero ok m k)=Qh P H kt zero ok (ev T m) (ev T k):=rfl
theorem Yx {P:Program}{T:Env}{H:aa}{kt:TypeId}{m k v:Operand}:kZ P T H (.mapUpdate kt m k v)=Uk P H kt (ev T m) (ev T k) (ev T v):=rfl
theorem Yy {P:Program}{T:Env}{H:aa}{kt:TypeId}{m k:Operand}:kZ P T H (.delete kt m k)=XY P H kt (ev T m) (ev T k):=rfl
theorem JT:type_of% @bL.eq_2:=@bL.eq_2
theorem JU:type_of% @bL.eq_3:=@bL.eq_3
theorem JV:type_of% @bL.eq_4:=@bL.eq_4
theorem JW:type_of% @bL.eq_5:=@bL.eq_5
theorem JX:type_of% @bL.eq_6:=@bL.eq_6
theorem JY:type_of% @bL.eq_7:=@bL.eq_7
theorem JZ:type_of% @bL.eq_8:=@bL.eq_8
theorem Y0:type_of% @bL.eq_9:=@bL.eq_9
theorem Y1:type_of% @bL.eq_10:=@bL.eq_10
theorem Y2:type_of% @bL.eq_11:=@bL.eq_11
theorem Y3:type_of% @bL.eq_12:=@bL.eq_12
theorem Y4:type_of% @bL.eq_13:=@bL.eq_13
theorem Y5:type_of% @bL.eq_14:=@bL.eq_14
theorem Y6:type_of% @bL.eq_15:=@bL.eq_15
theorem Y7:type_of% @bL.eq_16:=@bL.eq_16
theorem Y8:type_of% @bL.eq_17:=@bL.eq_17
theorem Y9:type_of% @bL.eq_18:=@bL.eq_18
theorem Ya:type_of% @bL.eq_19:=@bL.eq_19
theorem Yb:type_of% @bL.eq_20:=@bL.eq_20
theorem Yc:type_of% @bL.eq_21:=@bL.eq_21
theorem Yd:type_of% @bL.eq_22:=@bL.eq_22
theorem Ye:type_of% @bL.eq_23:=@bL.eq_23
theorem Yf:type_of% @bL.eq_24:=@bL.eq_24
theorem Yg:type_of% @bL.eq_25:=@bL.eq_25
theorem Yh:type_of% @bL.eq_27:=@bL.eq_27
theorem Yi:type_of% @bL.eq_28:=@bL.eq_28
theorem Yj:type_of% @bL.eq_29:=@bL.eq_29
theorem Yk:type_of% @bL.eq_30:=@bL.eq_30
theorem Yl:type_of% @bL.eq_31:=@bL.eq_31
theorem Ym:type_of% @bL.eq_32:=@bL.eq_32
theorem Yn:type_of% @bL.eq_33:=@bL.eq_33
theorem Yo:type_of% @bL.eq_34:=@bL.eq_34
theorem Yp:type_of% @bL.eq_35:=@bL.eq_35
theorem Yr:type_of% @kZ.eq_1:=@kZ.eq_1
theorem Ys:type_of% @kZ.eq_2:=@kZ.eq_2
theorem Yt:type_of% @kZ.eq_3:=@kZ.eq_3
theorem Yu:type_of% @kZ.eq_4:=@kZ.eq_4
theorem Yv:type_of% @kZ.eq_5:=@kZ.eq_5
theorem Yw:type_of% @kZ.eq_6:=@kZ.eq_6
end
end Go.Proofs.YtpbbjfighohokaaGreatI
