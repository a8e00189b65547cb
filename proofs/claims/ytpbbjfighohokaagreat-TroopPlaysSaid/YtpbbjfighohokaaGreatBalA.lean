/- Slices that are appended to; what stays of a heap. / Maps as functions of keys. / Votes. / A law's arguments, decoded. / Deeds of nodes, and texts, as arguments. / Slices as they may be cut and copied. / Blocks of one's own: what a call may turn. / Ranges over maps: a step, and where they stand. / P -/
import Derived.Test.YtpbbjfighohokaaGreatIdealX
import Derived.Test.YtpbbjfighohokaaGreatIdealY
namespace Go.Proofs.YtpbbjfighohokaaGreatI
open Go
set_option linter.unusedSimpArgs false
set_option linter.unusedVariables false
structure aa.keep (B:Nat)(H H':aa):Prop where
 next:H.next≤H'.next
 get: ∀b,b<B→H'.get b=H.get b
theorem aa.Um (B:Nat)(H:aa):aa.keep B H H:=⟨Nat.le_refl _,fun _ _=>rfl⟩
theorem aa.keep.trans {B:Nat}{A C D:aa}(h:aa.keep B A C)(k:aa.keep B C D):aa.keep B A D:=⟨Nat.le_trans h.next k.next,fun b hb=>(k.get b hb).trans (h.get b hb)⟩
theorem aa.keep.weak {B B':Nat}{A C:aa}(h:aa.keep B A C)(hb:B'≤B):aa.keep B' A C:=⟨h.next,fun b k=>h.get b (Nat.lt_of_lt_of_le k hb)⟩
theorem aa.le.keep {A C:aa}(h:A.le C){B:Nat}(hb:B≤A.next):aa.keep B A C:=⟨h.next,fun b k=>h.get b (Nat.lt_of_lt_of_le k hb)⟩
theorem aa.keep.le {A C:aa}{B:Nat}(h:aa.keep B A C)(hb:A.next≤B):A.le C:=⟨h.next,fun b k=>h.get b (Nat.lt_of_lt_of_le k hb)⟩
theorem aa.keep.alloc {B:Nat}{A C:aa}(h:aa.keep B A C)(hb:B≤C.next)(o:fK):aa.keep B A (C.alloc o):=h.trans ((C.aj o).keep hb)
theorem aa.keep.set {B:Nat}{A C:aa}(h:aa.keep B A C){i:Nat}(hi:B≤i)(o:fK):aa.keep B A (C.set i o):=⟨h.next,fun b hb=>by
 rw[YW,if_neg (by omega)];exact h.get b hb⟩
theorem aa.le.then {A C D:aa}(h:A.le C){B:Nat}(k:aa.keep B C D)(hb:A.next≤B):A.le D:=⟨Nat.le_trans h.next k.next,fun b hb'=>(k.get b (by omega)).trans (h.get b hb')⟩
theorem aa.upd.trans {S:List Nat}{A B C:aa}(h:aa.upd S A B)(k:aa.upd S B C):aa.upd S A C:=
 ⟨Nat.le_trans h.next k.next,fun b hb hs=>(k.get b (Nat.lt_of_lt_of_le hb h.next) hs).trans (h.get b hb hs)⟩
theorem aa.upd.keep {S:List Nat}{A C:aa}(h:aa.upd S A C){B:Nat}(hb:B≤A.next)(hs: ∀i ∈ S,B≤i):aa.keep B A C:=
 ⟨h.next,fun b k=>h.get b (by omega) fun hm=>by have:=hs b hm;omega⟩
theorem aa.keep.upd {S:List Nat}{A C:aa}{B:Nat}(h:aa.keep B A C)(hb:A.next≤B):aa.upd S A C:=⟨h.next,fun b k _=>h.get b (by omega)⟩
theorem aa.upd.vH {S:List Nat}{A C D:aa}{B:Nat}(h:aa.upd S A C)(k:aa.keep B C D)(hb:A.next≤B):aa.upd S A D:=
 ⟨Nat.le_trans h.next k.next,fun b hb' hs=>(k.get b (by omega)).trans (h.get b hb' hs)⟩
theorem aa.le.Qk {S:List Nat}{A C D:aa}(h:A.le C)(k:aa.upd S C D):aa.upd S A D:=
 ⟨Nat.le_trans h.next k.next,fun b hb hs=>(k.get b (Nat.lt_of_lt_of_le hb h.next) hs).trans (h.get b hb)⟩
theorem aa.le.ZY {S:List Nat}{A C D:aa}(h:A.le C)(k:aa.upd S C D)(hs: ∀i ∈ S,A.next≤i):A.le D:=
 ⟨Nat.le_trans h.next k.next,fun b hb=>(k.get b (Nat.lt_of_lt_of_le hb h.next) fun hm=>by have:=hs b hm;omega).trans (h.get b hb)⟩
theorem rX {α:Type}: ∀(rows:List (List α)) (size i:Nat) (r:List α),(∀r ∈ rows,r.length=size)→rows[i]? =some r→(rows.flatten.drop (i*size)).take size=r∧i*size+size≤rows.flatten.length
 |[],_,_,_,_,h=>by simp at h
 |d::es,size,0,r,h,hi=>by
  have:=h d (by simp)
  simp only[List.getElem?_cons_zero,Option.some.injEq]at hi
  subst hi
  simp only[List.flatten_cons,Nat.zero_mul,List.drop_zero,List.length_append,Nat.zero_add]
  exact⟨by rw[←this,List.take_left],by omega⟩
 |d::es,size,i+1,r,h,hi=>by
  have h0:=h d (by simp)
  obtain⟨h1,h2⟩:=rX es size i r (fun x hx=>h x (by simp[hx])) (by simpa using hi)
  simp only[List.flatten_cons,List.length_append]
  have e:(i+1)*size=d.length+i*size:=by rw[h0,Nat.add_mul];omega
  refine⟨?_,by omega⟩
  rw[e,List.drop_append,List.drop_eq_nil_of_le (by omega),List.nil_append,Nat.add_sub_cancel_left]
  exact h1
theorem dR {α:Type}: ∀(rows:List (List α)) (size:Nat),(∀r ∈ rows,r.length=size)→rows.flatten.length=rows.length*size
 |[],_,_=>by simp
 |d::es,size,h=>by
  have h0:=h d (by simp)
  rw[List.flatten_cons,List.length_append,dR es size (fun x hx=>h x (by simp[hx])),h0,List.length_cons,Nat.add_mul];omega
def Own (H:aa)(B size:Nat)(v:Value)(rows:List (List Value)):Prop:=
 (∀r ∈ rows,r.length=size)∧∃blk,B≤blk∧blk<H.next∧v = .slice (some ⟨blk,0,none⟩) rows.length (dY+size)∧H.get blk=some (.cells rows.flatten false)
def Dc (H:aa)(size:Nat)(v:Value)(rows:List (List Value)):Prop:=
 (∀r ∈ rows,r.length=size)∧∃blk o cs ro,blk<H.next∧rows.length<dY∧v = .slice (some ⟨blk,o,none⟩) rows.length rows.length∧H.get blk=some (.cells cs ro)∧(cs.drop o).take (rows.length*size)=rows.flatten∧o+rows.length*size≤cs.length
def Buf (H:aa)(B size:Nat)(v:Value)(rows:List (List Value)):Prop:=
 (rows=[]∧v = .slice none 0 0)∨Dc H size v rows∨Own H B size v rows
theorem Own.len {H:aa}{B size:Nat}{v:Value}{rows:List (List Value)}(h:Own H B size v rows): ∃a cap,v = .slice a rows.length cap:=by obtain⟨_,b,_,_,rfl,_⟩:=h;exact⟨_,_,rfl⟩
theorem Buf.len {H:aa}{B size:Nat}{v:Value}{rows:List (List Value)}(h:Buf H B size v rows): ∃a cap,v = .slice a rows.length cap:=by
 rcases h with⟨rfl,rfl⟩|⟨_,b,_,_,_,_,_,rfl,_⟩|h
 ·exact⟨_,_,rfl⟩
 ·exact⟨_,_,rfl⟩
 ·exact h.len
theorem Buf.rows {H:aa}{B size:Nat}{v:Value}{rows:List (List Value)}(h:Buf H B size v rows): ∀r ∈ rows,r.length=size:=by
 rcases h with⟨rfl,rfl⟩|⟨h,_⟩|⟨h,_⟩
 ·simp
 ·exact h
 ·exact h
theorem Own.keep {H H':aa}{B C size:Nat}{v:Value}{rows:List (List Value)}(h:Own H B size v rows)(hk:aa.keep C H H')(hC:H.next≤C):Own H' B size v rows:=by
 obtain⟨h0,blk,h1,h2,h3,h4⟩:=h
 exact⟨h0,blk,h1,Nat.lt_of_lt_of_le h2 hk.next,h3,by rw[hk.get _ (by omega)];exact h4⟩
theorem Own.le {H H':aa}{B size:Nat}{v:Value}{rows:List (List Value)}(h:Own H B size v rows)(hk:H.le H'):Own H' B size v rows:=h.keep (hk.keep (Nat.le_refl _)) (Nat.le_refl _)
theorem Dc.le {H H':aa}{size:Nat}{v:Value}{rows:List (List Value)}(h:Dc H size v rows)(hk:H.le H'):Dc H' size v rows:=by
 obtain⟨h0,blk,o,cs,ro,h1,h2,h3,h4,h5,h6⟩:=h
 exact⟨h0,blk,o,cs,ro,Nat.lt_of_lt_of_le h1 hk.next,h2,h3,by rw[hk.get _ h1];exact h4,h5,h6⟩
theorem Buf.le {H H':aa}{B size:Nat}{v:Value}{rows:List (List Value)}(h:Buf H B size v rows)(hk:H.le H'):Buf H' B size v rows:=by
 rcases h with h|h|h
 ·exact .inl h
 ·exact .inr (.inl (h.le hk))
 ·exact .inr (.inr (h.le hk))
theorem Own.weak {H:aa}{B B' size:Nat}{v:Value}{rows:List (List Value)}(h:Own H B size v rows)(hb:B'≤B):Own H B' size v rows:=by
 obtain⟨h0,blk,h1,h2,h3,h4⟩:=h
 exact⟨h0,blk,by omega,h2,h3,h4⟩
theorem Own.Lg {H:aa}{B size:Nat}{v:Value}{rows:List (List Value)}(h:Own H B size v rows):qJ H size v rows:=by
 obtain⟨h0,blk,h1,h2,rfl,h4⟩:=h
 refine⟨_,_,rfl,fun _=>⟨blk,0,_,false,rfl,h2,h4,fun i r hr=> ?_⟩⟩
 have:=rX rows size i r h0 hr
 exact⟨h0 r (List.mem_of_getElem? hr),by simpa using this.1,by simpa using this.2⟩
theorem Dc.Lg {H:aa}{size:Nat}{v:Value}{rows:List (List Value)}(h:Dc H size v rows):qJ H size v rows:=by
 obtain⟨h0,blk,o,cs,ro,h1,h2,rfl,h4,h5,h6⟩:=h
 refine⟨_,_,rfl,fun _=>⟨blk,o,cs,ro,rfl,h1,h4,fun i r hr=> ?_⟩⟩
 obtain⟨f1,f2⟩:=rX rows size i r h0 hr
 rw[dR rows size h0]at f2
 refine⟨h0 r (List.mem_of_getElem? hr),?_,by omega⟩
 rw[←h5,List.drop_take,List.take_take,List.drop_drop]at f1
 rw[←f1,Nat.min_eq_left (by omega)]
theorem Buf.Lg {H:aa}{B size:Nat}{v:Value}{rows:List (List Value)}(h:Buf H B size v rows):qJ H size v rows:=by
 rcases h with⟨rfl,rfl⟩|h|h
 ·exact⟨none,0,rfl,fun h=>absurd rfl h⟩
 ·exact h.Lg
 ·exact h.Lg
theorem xm {H:aa}{B size bytes:Nat}{v:Value}{rows:List (List Value)}(hb:Buf H B size v rows)(h0:0<size)(h1:0<bytes)(hn:rows.length*bytes≤140737488355328)(hl:rows.length≤140737488355328):
 aY H size bytes v 0 []=some (v,H):=by
 have hle: ∃a len cap,v = .slice a len cap∧len=rows.length∧len≤cap:=by
  rcases hb with⟨rfl,rfl⟩|⟨_,b,_,_,_,_,_,rfl,_⟩|⟨_,b,_,_,rfl,_⟩
  ·exact⟨_,_,_,rfl,rfl,Nat.le_refl _⟩
  ·exact⟨_,_,_,rfl,rfl,Nat.le_refl _⟩
  ·exact⟨_,_,_,rfl,rfl,by unfold dY;omega⟩
 obtain⟨a,len,cap,rfl,rfl,hc⟩:=hle
 simp[aY,h0,h1,hn,hl,hc]
theorem Buf.append {H:aa}{B size bytes:Nat}{v:Value}{rows new:List (List Value)}(hb:Buf H B size v rows)(hB:B≤H.next)(h0:0<size)(h1:0<bytes)
 (hn:(rows.length+new.length)*bytes≤140737488355328) (hl:rows.length+new.length≤140737488355328) (hnew: ∀r ∈ new,r.length=size) (hone:new.flatten.all cO=true) (hne:new≠[]):
 ∃v' H',aY H size bytes v new.length new.flatten=some (v',H')∧Own H' B size v' (rows++new)∧aa.keep B H H':=by
 have hlen:=dR new size hnew
 have hp:new.length≠0:=by simpa using hne
 have hrows:=hb.rows
 have hall: ∀r ∈ rows++new,r.length=size:=fun r hr=>by rcases List.mem_append.1 hr with h|h;exact hrows r h;exact hnew r h
 have hp':0<new.length:=by omega
 have hrl:rows.length*size+new.length*size=(rows.length+new.length)*size:=(Nat.add_mul ..).symm
 have hps:0<new.length*size:=Nat.mul_pos hp' h0
 rcases hb with⟨rfl,rfl⟩|⟨_,blk,o,cs,ro,k1,k2,rfl,k4,k5,k6⟩|⟨_,blk,k1,k2,rfl,k4⟩
 ·refine⟨.slice (some ⟨H.next,0,none⟩) new.length (dY+size),H.alloc (.cells new.flatten false),?_,⟨hall,H.next,hB,by simp[YX],rfl,by simp[YV]⟩,(H.aj _).keep hB⟩
  simp only[List.length_nil,Nat.zero_add]at hn hl
  simp only[aY,Nat.zero_add]
  rw[if_pos ⟨hn,hl,h1,h0,hlen⟩,if_neg hp]
  rfl
 ·refine⟨.slice (some ⟨H.next,0,none⟩) (rows.length+new.length) (dY+size),H.alloc (.cells (rows.flatten++new.flatten) false),?_,⟨hall,H.next,hB,by simp[YX],by simp,by simp[YV]⟩,(H.aj _).keep hB⟩
  have hf:aZ H size rows.length (.slice (some ⟨blk,o,none⟩) rows.length rows.length)=some rows.flatten:=by
   simp only[aZ,aa.aP,k4]
   by_cases hz:rows.length*size=0
   ·rw[if_pos hz]
    have:rows.length=0:=by rcases Nat.mul_eq_zero.1 hz with h|h;exact h;omega
    simp[List.length_eq_zero_iff.1 this]
   ·rw[if_neg hz,if_pos k6,k5]
  have hnc: ¬ (rows.length+new.length≤rows.length):=by omega
  simp only[aY]
  rw[if_pos ⟨hn,hl,h1,h0,hlen⟩,if_neg hp,if_neg (fun h=>hnc h.2)]
  simp only[hf,k2,if_true]
 ·have qbh: ∀b,b<B→(H.set blk .dead).get b=H.get b:=fun b hb'=>by rw[YW,if_neg (by omega)]
  refine⟨.slice (some ⟨H.next,0,none⟩) (rows.length+new.length) (dY+size),(H.set blk .dead).alloc (.cells (rows.flatten++new.flatten) false),?_,⟨hall,H.next,hB,by simp[YX,YY],by simp,by simp[YV,YY]⟩,⟨by simp[YX,YY],fun b hb'=>by rw[YV,YY,if_neg (by omega)];exact qbh b hb'⟩⟩
  have hf:aZ H size rows.length (.slice (some ⟨blk,0,none⟩) rows.length (dY+size))=some rows.flatten:=by
   simp only[aZ,aa.aP,k4]
   have hfl:=dR rows size hrows
   by_cases hz:rows.length*size=0
   ·rw[if_pos hz]
    have:rows.length=0:=by rcases Nat.mul_eq_zero.1 hz with h|h;exact h;omega
    simp[List.length_eq_zero_iff.1 this]
   ·rw[if_neg hz,if_pos (by omega),List.drop_zero,List.take_of_length_le (by omega)]
  have hU: ¬ (dY+size<dY):=by omega
  have hfl:=dR rows size hrows
  simp only[aY]
  rw[if_pos ⟨hn,hl,h1,h0,hlen⟩,if_neg hp,if_neg (fun h=>hU h.1)]
  simp only[hf,if_neg hU,if_true,k4,hone]
  rw[if_neg (by omega),if_pos (by omega)]
theorem Buf.AJ {H:aa}{B bytes size:Nat}{v:Value}{rows:List (List Value)}{new:List Value}(hb:Buf H B size v rows)(hB:B≤H.next)(h1:0<bytes)(h0:0<size)
 (hn:(rows.length+1)*bytes≤140737488355328) (hl:rows.length+1≤140737488355328) (hnew:new.length=size) (hone:new.all cO=true):
 ∃v' H',aY H size bytes v 1 new=some (v',H')∧Own H' B size v' (rows++[new])∧aa.keep B H H':=by
 have:=hb.append (new:=[new]) hB h0 h1 hn hl (by simpa using hnew) (by simpa using hone) (by simp)
 simpa using this
theorem qJ.at {H:aa}{size:Nat}{v:Value}{rows:List (List Value)}(h:qJ H size v rows){i:Nat}{r:List Value}(hi:rows[i]? =some r):
 ∃b o cap cs ro,v = .slice (some ⟨b,o,none⟩) rows.length cap∧b<H.next∧H.get b=some (.cells cs ro)∧r.length=size∧(cs.drop (o+i*size)).take size=r∧o+i*size+size≤cs.length:=by
 obtain⟨a,cap,rfl,h2⟩:=h
 obtain⟨b,o,cs,ro,rfl,hb,hget,hrow⟩:=h2 (by rintro rfl;simp at hi)
 exact⟨b,o,cap,cs,ro,rfl,hb,hget,hrow i r hi⟩
theorem qJ.at1 {H:aa}{v:Value}{rows:List (List Value)}(h:qJ H 1 v rows){i:Nat}{x:Value}(hi:rows[i]? =some [x]):
 ∃b o cap cs ro,v = .slice (some ⟨b,o,none⟩) rows.length cap∧b<H.next∧H.get b=some (.cells cs ro)∧cs[o+i]? =some x:=by
 obtain⟨b,o,cap,cs,ro,h1,h2,h3,_,h5,h6⟩:=h.at hi
 refine⟨b,o,cap,cs,ro,h1,h2,h3,?_⟩
 rw[Nat.mul_one]at h5 h6
 have:((cs.drop (o+i)).take 1)[0]? =some x:=by rw[h5];rfl
 simpa using this
theorem Own.upd {H H':aa}{S:List Nat}{B size:Nat}{v:Value}{rows:List (List Value)}(h:Own H B size v rows)(hu:aa.upd S H H')(hS: ∀p ∈ S,p<B):Own H' B size v rows:=by
 obtain⟨h0,blk,h1,h2,h3,h4⟩:=h
 exact⟨h0,blk,h1,Nat.lt_of_lt_of_le h2 hu.next,h3,by rw[hu.get _ h2 fun hm=>by have:=hS _ hm;omega];exact h4⟩
def Grow (H:aa)(B size:Nat)(v:Value)(rows:List (List Value)):Prop:=(rows=[]∧v = .slice none 0 0)∨Own H B size v rows
theorem Grow.nil (H:aa)(B size:Nat):Grow H B size (.slice none 0 0) []:=.inl ⟨rfl,rfl⟩
theorem Grow.buf {H:aa}{B size:Nat}{v:Value}{rows:List (List Value)}(h:Grow H B size v rows):Buf H B size v rows:=h.imp id .inr
theorem Grow.Lg {H:aa}{B size:Nat}{v:Value}{rows:List (List Value)}(h:Grow H B size v rows):qJ H size v rows:=h.buf.Lg
theorem Grow.upd {H H':aa}{S:List Nat}{B size:Nat}{v:Value}{rows:List (List Value)}(h:Grow H B size v rows)(hu:aa.upd S H H')(hS: ∀p ∈ S,p<B):Grow H' B size v rows:=h.imp id fun h=>h.upd hu hS
theorem Grow.le {H H':aa}{B size:Nat}{v:Value}{rows:List (List Value)}(h:Grow H B size v rows)(hu:H.le H'):Grow H' B size v rows:=h.imp id fun h=>h.le hu
theorem Grow.len {H:aa}{B size:Nat}{v:Value}{rows:List (List Value)}(h:Grow H B size v rows): ∃a cap,v = .slice a rows.length cap:=h.buf.len
theorem Grow.AJ {H:aa}{B bytes size:Nat}{v:Value}{rows:List (List Value)}{new:List Value}(hb:Grow H B size v rows)(hB:B≤H.next)(h1:0<bytes)(h0:0<size)
 (hn:(rows.length+1)*bytes≤140737488355328) (hl:rows.length+1≤140737488355328) (hnew:new.length=size) (hone:new.all cO=true):
 ∃v' H',aY H size bytes v 1 new=some (v',H')∧Grow H' B size v' (rows++[new])∧aa.keep B H H':=by
 obtain⟨v',H',h1,h2,h3⟩:=hb.buf.AJ hB h1 h0 hn hl hnew hone
 exact⟨v',H',h1,.inr h2,h3⟩
theorem Grow.weak {H:aa}{B B' size:Nat}{v:Value}{rows:List (List Value)}(h:Grow H B size v rows)(hb:B'≤B):Grow H B' size v rows:=h.imp id fun h=>h.weak hb
section
section
variable {κ α:Type} [DecidableEq κ]
structure tZ (P:Program)(kt:TypeId)(f:κ→Value):Prop where
 eq: ∀a b,aB P (Op.equal kt (f a) (f b))=some (decide (a=b))
 ck: ∀e a,(aB P (Instr.checkKey e 10000 kt (f a))).isSome=true
 sc: ∀a,lV (f a)=true
 sb: ∀a,Instr.sameBits 10000 (f a) (f a)=true
def kM (l:List (κ×α))(k:κ):Option α:=(l.find? fun p=>decide (p.1=k)).map (·.2)
theorem dL (p:κ×α)(l:List (κ×α))(k:κ):kM (p::l) k=if p.1=k then some p.2 else kM l k:=by
 unfold kM
 rw[List.find?_cons]
 by_cases h:p.1=k <;> simp[h]
theorem Oi (l:List (κ×α))(k k':κ)(a:α)(h:kM l k=none):kM (l++[(k,a)]) k'=if k=k' then some a else kM l k':=by
 induction l with
 |nil=>rw[List.nil_append,dL]
 |cons p l ih=>
  rw[dL]at h
  by_cases hp:p.1=k
  ·rw[if_pos hp]at h;cases h
  ·rw[if_neg hp]at h
   rw[List.cons_append,dL,dL,ih h]
   by_cases h1:p.1=k'
   ·rw[if_pos h1,if_pos h1,if_neg (by rintro rfl;exact hp h1)]
   ·rw[if_neg h1,if_neg h1]
theorem Sg {l:List (κ×α)}{k:κ}(h:kM l k=none):k ∉ l.map (·.1):=by
 induction l with
 |nil=>simp
 |cons p l ih=>
  rw[dL]at h
  by_cases hp:p.1=k
  ·rw[if_pos hp]at h;cases h
  ·rw[if_neg hp]at h
   simp only[List.map_cons,List.mem_cons,not_or]
   exact⟨fun h=>hp h.symm,ih h⟩
theorem Un {l:List (κ×α)}{k:κ}(h:k ∉ l.map (·.1)):kM l k=none:=by
 induction l with
 |nil=>rfl
 |cons p l ih=>
  simp only[List.map_cons,List.mem_cons,not_or]at h
  rw[dL,if_neg (fun e=>h.1 e.symm),ih h.2]
def jy (l:List (κ×α))(k:κ):Option Nat:=l.findIdx? fun p=>decide (p.1=k)
theorem Lh {l:List (κ×α)}{k:κ}{i:Nat}(h:jy l k=some i): ∃a,l[i]? =some (k,a)∧kM l k=some a:=by
 induction l generalizing i with
 |nil=>simp[jy]at h
 |cons p l ih=>
  unfold jy at h
  rw[List.findIdx?_cons]at h
  by_cases hp:p.1=k
  ·simp only[hp,decide_true]at h
   simp only[if_true,Option.some.injEq]at h
   subst h
   exact⟨p.2,by simp[←hp],by rw[dL,if_pos hp]⟩
  ·simp only[hp,decide_false,Bool.false_eq_true,if_false,Option.map_eq_some_iff]at h
   obtain⟨j,hj,rfl⟩:=h
   obtain⟨a,h1,h2⟩:=ih hj
   exact⟨a,by simpa using h1,by rw[dL,if_neg hp];exact h2⟩
theorem xq {l:List (κ×α)}{k:κ}(h:jy l k=none):kM l k=none:=by
 unfold jy at h
 unfold kM
 rw[List.findIdx?_eq_none_iff]at h
 rw[Option.map_eq_none_iff,List.find?_eq_none]
 intro x hx
 have:=h x hx
 simp at this ⊢;exact this
theorem Oj {l:List (κ×α)}{k:κ}{i:Nat}(h:jy l k=some i)(a:α)(k':κ):kM (l.modify i fun _=>(k,a)) k'=if k=k' then some a else kM l k':=by
 induction l generalizing i with
 |nil=>simp[jy]at h
 |cons p l ih=>
  unfold jy at h
  rw[List.findIdx?_cons]at h
  by_cases hp:p.1=k
  ·simp only[hp,decide_true]at h
   simp only[if_true,Option.some.injEq]at h
   subst h
   rw[List.modify_zero_cons,dL,dL,hp]
   by_cases h1:k=k' <;> simp[h1]
  ·simp only[hp,decide_false,Bool.false_eq_true,if_false,Option.map_eq_some_iff]at h
   obtain⟨j,hj,rfl⟩:=h
   rw[List.modify_succ_cons,dL,dL,ih hj]
   by_cases h1:p.1=k'
   ·rw[if_pos h1,if_pos h1,if_neg (by rintro rfl;exact hp h1)]
   ·rw[if_neg h1,if_neg h1]
theorem Mv {l:List (κ×α)}{k:κ}{i:Nat}(h:jy l k=some i)(a:α):(l.modify i fun _=>(k,a)).map (·.1)=l.map (·.1):=by
 induction l generalizing i with
 |nil=>simp[jy]at h
 |cons p l ih=>
  unfold jy at h
  rw[List.findIdx?_cons]at h
  by_cases hp:p.1=k
  ·simp only[hp,decide_true]at h
   simp only[if_true,Option.some.injEq]at h
   subst h
   rw[List.modify_zero_cons,List.map_cons,List.map_cons,hp]
  ·simp only[hp,decide_false,Bool.false_eq_true,if_false,Option.map_eq_some_iff]at h
   obtain⟨j,hj,rfl⟩:=h
   rw[List.modify_succ_cons,List.map_cons,List.map_cons,ih hj]
theorem Ql {l:List (κ×α)}{k:κ}{i:Nat}(h:jy l k=some i)(hn:(l.map (·.1)).Nodup)(k':κ):kM (l.eraseIdx i) k'=if k=k' then none else kM l k':=by
 induction l generalizing i with
 |nil=>simp[jy]at h
 |cons p l ih=>
  unfold jy at h
  rw[List.findIdx?_cons]at h
  simp only[List.map_cons,List.nodup_cons]at hn
  by_cases hp:p.1=k
  ·simp only[hp,decide_true]at h
   simp only[if_true,Option.some.injEq]at h
   subst h
   rw[List.eraseIdx_cons_zero,dL]
   by_cases h1:k=k'
   ·subst h1
    rw[if_pos rfl]
    exact Un (by rw[←hp];exact hn.1)
   ·rw[if_neg h1,if_neg (by rw[hp];exact h1)]
  ·simp only[hp,decide_false,Bool.false_eq_true,if_false,Option.map_eq_some_iff]at h
   obtain⟨j,hj,rfl⟩:=h
   rw[List.eraseIdx_cons_succ,dL,dL,ih hj hn.2]
   by_cases h1:p.1=k'
   ·rw[if_pos h1,if_pos h1,if_neg (by rintro rfl;exact hp h1)]
   ·rw[if_neg h1,if_neg h1]
def pU (es:List MapEntry)(clock:Nat):Prop:=(es.map (·.born)).Nodup∧∀e ∈ es,e.born<clock
theorem pU.add {es:List MapEntry}{clock:Nat}(h:pU es clock)(k v:Value):pU (es++[{key:=k,val:=v,born:=clock}]) (clock+1):=by
 refine⟨?_,fun e he=> ?_⟩
 ·rw[List.map_append,List.nodup_append]
  refine⟨h.1,by simp,fun x hx y hy=> ?_⟩
  obtain⟨e,he,rfl⟩:=List.mem_map.1 hx
  simp only[List.map_cons,List.map_nil,List.mem_singleton]at hy
  subst hy
  exact Nat.ne_of_lt (h.2 e he)
 ·rcases List.mem_append.1 he with he|he
  ·exact Nat.lt_succ_of_lt (h.2 e he)
  ·simp only[List.mem_singleton]at he
   subst he
   exact Nat.lt_succ_self _
theorem yf {A B:Type}(F:A→B)(x:A→A)(hx: ∀e,F (x e)=F e): ∀(l:List A) (i:Nat),(l.modify i x).map F=l.map F
 |[],i=>by simp
 |e::l,0=>by simp[hx]
 |e::l,i+1=>by rw[List.modify_succ_cons,List.map_cons,List.map_cons,yf F x hx l i]
theorem pU.modify {es:List MapEntry}{clock:Nat}(h:pU es clock)(x:MapEntry→MapEntry)(hx: ∀e,(x e).born=e.born)(i:Nat):pU (es.modify i x) clock:=by
 have hm:(es.modify i x).map (·.born)=es.map (·.born):=yf _ x hx es i
 refine⟨by rw[hm];exact h.1,fun e he=> ?_⟩
 have:e.born ∈ (es.modify i x).map (·.born):=List.mem_map.2 ⟨e,he,rfl⟩
 rw[hm]at this
 obtain⟨e',h1,h2⟩:=List.mem_map.1 this
 rw[←h2];exact h.2 e' h1
theorem pU.erase {es:List MapEntry}{clock:Nat}(h:pU es clock)(i:Nat):pU (es.eraseIdx i) clock:=
 ⟨h.1.sublist ((List.eraseIdx_sublist es i).map _),fun e he=>h.2 e ((List.eraseIdx_sublist es i).subset he)⟩
def qK (H:aa)(r:Nat)(f:κ→Value)(g:α→Value)(l:List (κ×α)):Prop:=
 r<H.next∧(∃es clock,H.get r=some (.map es clock)∧es.map (fun e=>(e.key,e.val))=(l.map fun p=>(f p.1,g p.2))∧pU es clock)∧(l.map (·.1)).Nodup
def IsMap (H:aa)(r:Nat)(f:κ→Value)(g:α→Value)(m:κ→Option α):Prop:=∃l,qK H r f g l∧∀k,kM l k=m k
variable {P:Program} {kt:TypeId} {f:κ→Value} {g:α→Value} {H:aa} {r:Nat}
theorem ET (hk:tZ P kt f)(k:κ): ∀(es:List MapEntry) (l:List (κ×α)) (i:Nat),es.map (fun e=>(e.key,e.val))=(l.map fun p=>(f p.1,g p.2))→qU P kt (f k) es i=some ((jy l k).map (· +i))
 |[],[],i,_=>rfl
 |[],_::_,_,h=>by simp at h
 |_::_,[],_,h=>by simp at h
 |e::es,p::l,i,h=>by
  simp only[List.map_cons,List.cons.injEq,Prod.mk.injEq]at h
  obtain⟨⟨h1,h2⟩,h3⟩:=h
  rw[qU,h1,hk.eq]
  unfold jy
  rw[List.findIdx?_cons]
  by_cases hp:p.1=k
  ·simp[hp]
  ·have hp': ¬ k=p.1:=fun h=>hp h.symm
   simp only[hp,hp',decide_false,Bool.false_eq_true,if_false]
   rw[ET hk k es l (i+1) h3]
   unfold jy
   simp only[Option.map_map]
   congr 2
   funext x
   simp;omega
theorem Li (hk:tZ P kt f)(k:κ): ∀{es:List MapEntry} {l:List (κ×α)},es.map (fun e=>(e.key,e.val))=(l.map fun p=>(f p.1,g p.2))→CW P kt (f k) es=true:=by
 intro es l h
 have hs:es.all (fun e=>lV e.key)=true:=by
  rw[List.all_eq_true]
  intro e he
  have:(e.key,e.val) ∈ l.map fun p=>(f p.1,g p.2):=by rw[←h];exact List.mem_map.2 ⟨e,he,rfl⟩
  obtain⟨p,_,hp⟩:=List.mem_map.1 this
  simp only[Prod.mk.injEq]at hp
  rw[←hp.1];exact hk.sc _
 simp only[CW,hk.sc,hs,hk.ck,Bool.and_self]
theorem qK.look {l:List (κ×α)}(h:qK H r f g l)(hk:tZ P kt f)(k:κ)(zero:Value)(ok:Bool):
 Qh P H kt zero ok (.map (some r)) (f k)=some (match kM l k with
  |some a=>if ok then .tuple #[g a,.bool true]else g a
  |none=>if ok then .tuple #[zero,.bool false]else zero):=by
 obtain⟨_,⟨es,clock,h1,h2,_⟩,_⟩:=h
 simp only[Qh,qj,h1,Li hk k h2,if_true,ET hk k es l 0 h2]
 cases hi:jy l k with
 |none=>simp only[Option.map_none,xq hi]
 |some i=>
  obtain⟨a,e1,e2⟩:=Lh hi
  have:(es.map fun e=>(e.key,e.val))[i]? =some (f k,g a):=by rw[h2,List.getElem?_map,e1];rfl
  rw[List.getElem?_map]at this
  simp only[Option.map_some,Nat.add_zero,e2]
  cases he:es[i]? with
  |none=>rw[he]at this;simp at this
  |some e=>
   rw[he]at this
   simp only[Option.map_some,Option.some.injEq,Prod.mk.injEq]at this
   simp only[this.2]
theorem IsMap.look {m:κ→Option α}(h:IsMap H r f g m)(hk:tZ P kt f)(k:κ)(zero:Value)(ok:Bool):
 Qh P H kt zero ok (.map (some r)) (f k)=some (match m k with
  |some a=>if ok then .tuple #[g a,.bool true]else g a
  |none=>if ok then .tuple #[zero,.bool false]else zero):=by
 obtain⟨l,h1,h2⟩:=h
 rw[h1.look hk,h2]
def Lj (l:List (κ×α))(k:κ)(a:α):List (κ×α):=match jy l k with
 |some i=>l.modify i fun _=>(k,a)
 |none=>l++[(k,a)]
def Lm (l:List (κ×α))(k:κ):List (κ×α):=match jy l k with
 |some i=>l.eraseIdx i
 |none=>l
theorem Uo (l:List (κ×α))(k:κ)(a:α)(k':κ):kM (Lj l k a) k'=if k=k' then some a else kM l k':=by
 unfold Lj
 cases h:jy l k with
 |none=>exact Oi l k k' a (xq h)
 |some i=>exact Oj h a k'
theorem Uq {l:List (κ×α)}(hn:(l.map (·.1)).Nodup)(k k':κ):kM (Lm l k) k'=if k=k' then none else kM l k':=by
 unfold Lm
 cases h:jy l k with
 |none=>
  simp only
  by_cases h1:k=k'
  ·rw[if_pos h1,←h1];exact xq h
  ·rw[if_neg h1]
 |some i=>exact Ql h hn k'
theorem Qm {l:List (κ×α)}(hn:(l.map (·.1)).Nodup)(k:κ)(a:α):((Lj l k a).map (·.1)).Nodup:=by
 unfold Lj
 cases h:jy l k with
 |none=>
  simp only[List.map_append,List.map_cons,List.map_nil]
  have:=Sg (xq h)
  rw[List.nodup_append]
  exact⟨hn,by simp,fun x hx y hy=>by simp at hy;subst hy;rintro rfl;exact this hx⟩
 |some i=>simp only;rw[Mv h];exact hn
theorem qg {A B:Type}(F:A→B): ∀(l:List A) (i:Nat),(l.eraseIdx i).map F=(l.map F).eraseIdx i
 |[],i=>by simp
 |e::l,0=>by simp
 |e::l,i+1=>by rw[List.eraseIdx_cons_succ,List.map_cons,List.map_cons,List.eraseIdx_cons_succ,qg F l i]
theorem Qn {l:List (κ×α)}(hn:(l.map (·.1)).Nodup)(k:κ):((Lm l k).map (·.1)).Nodup:=by
 unfold Lm
 cases h:jy l k with
 |none=>exact hn
 |some i=>
  simp only
  rw[qg]
  exact hn.sublist (List.eraseIdx_sublist _ _)
theorem zm {A B:Type}(F:A→B)(x:A→A)(y:B)(hx: ∀e,F (x e)=y): ∀(l:List A) (i:Nat),(l.modify i x).map F=(l.map F).modify i fun _=>y
 |[],i=>by simp
 |e::l,0=>by simp[hx]
 |e::l,i+1=>by rw[List.modify_succ_cons,List.map_cons,List.map_cons,List.modify_succ_cons,zm F x y hx l i]
theorem qK.put {l:List (κ×α)}(h:qK H r f g l)(hk:tZ P kt f)(k:κ)(a:α):
 ∃o,Uk P H kt (.map (some r)) (f k) (g a)=some (undef,H.set r o)∧qK (H.set r o) r f g (Lj l k a):=by
 obtain⟨h0,⟨es,clock,h1,h2,hb⟩,hn⟩:=h
 simp only[Uk,h1,Li hk k h2,if_true,ET hk k es l 0 h2]
 have hnp:=Qm hn k a
 cases hi:jy l k with
 |none=>
  simp only[Option.map_none]
  refine⟨_,rfl,h0,⟨_,_,by rw[YW,if_pos rfl],?_⟩,hnp⟩
  exact⟨by simp only[Lj,hi,List.map_append,h2,List.map_cons,List.map_nil],hb.add _ _⟩
 |some i=>
  obtain⟨a',e1,e2⟩:=Lh hi
  have:(es.map fun e=>(e.key,e.val))[i]? =some (f k,g a'):=by rw[h2,List.getElem?_map,e1];rfl
  rw[List.getElem?_map]at this
  simp only[Option.map_some,Nat.add_zero]
  cases he:es[i]? with
  |none=>rw[he]at this;simp at this
  |some e=>
   rw[he]at this
   simp only[Option.map_some,Option.some.injEq,Prod.mk.injEq]at this
   simp only[Option.map_some,Option.getD_some,this.1,hk.sb,if_true]
   refine⟨_,rfl,h0,⟨_,_,by rw[YW,if_pos rfl],?_⟩,hnp⟩
   refine⟨?_,hb.modify (fun e=>{e with key:=f k,val:=g a}) (fun _=>rfl) _⟩
   simp only[Lj,hi]
   rw[zm (fun e:MapEntry=>(e.key,e.val)) _ (f k,g a) (fun _=>rfl),h2,zm (fun p:κ×α=>(f p.1,g p.2)) _ (f k,g a) (fun _=>rfl)]
theorem qK.del {l:List (κ×α)}(h:qK H r f g l)(hk:tZ P kt f)(k:κ):
 ∃o,XY P H kt (.map (some r)) (f k)=some (.tuple #[],H.set r o)∧qK (H.set r o) r f g (Lm l k):=by
 obtain⟨h0,⟨es,clock,h1,h2,hb⟩,hn⟩:=h
 simp only[XY,h1,Li hk k h2,if_true,ET hk k es l 0 h2]
 have hnp:=Qn hn k
 cases hi:jy l k with
 |none=>
  simp only[Option.map_none]
  refine⟨_,rfl,h0,⟨_,_,by rw[YW,if_pos rfl],?_⟩,hnp⟩
  exact⟨by simp only[Lm,hi,h2],hb⟩
 |some i=>
  simp only[Option.map_some,Nat.add_zero]
  refine⟨_,rfl,h0,⟨_,_,by rw[YW,if_pos rfl],?_⟩,hnp⟩
  exact⟨by simp only[Lm,hi];rw[qg,h2,qg],hb.erase _⟩
theorem IsMap.put {m:κ→Option α}(h:IsMap H r f g m)(hk:tZ P kt f)(k:κ)(a:α):
 ∃o,Uk P H kt (.map (some r)) (f k) (g a)=some (undef,H.set r o)∧IsMap (H.set r o) r f g fun k'=>if k=k' then some a else m k':=by
 obtain⟨l,h1,h2⟩:=h
 obtain⟨o,e1,e2⟩:=h1.put hk k a
 exact⟨o,e1,_,e2,fun k'=>by rw[Uo,h2]⟩
theorem IsMap.del {m:κ→Option α}(h:IsMap H r f g m)(hk:tZ P kt f)(k:κ):
 ∃o,XY P H kt (.map (some r)) (f k)=some (.tuple #[],H.set r o)∧IsMap (H.set r o) r f g fun k'=>if k=k' then none else m k':=by
 obtain⟨l,h1,h2⟩:=h
 obtain⟨o,e1,e2⟩:=h1.del hk k
 exact⟨o,e1,_,e2,fun k'=>by rw[Uq h1.2.2,h2]⟩
omit [DecidableEq κ] in
theorem qK.same {H':aa}{l:List (κ×α)}(h:qK H r f g l)(hn:H.next≤H'.next)(hg:H'.get r=H.get r):qK H' r f g l:=by
 obtain⟨h0,⟨es,clock,h1,h2,hb⟩,h3⟩:=h
 exact⟨Nat.lt_of_lt_of_le h0 hn,⟨es,clock,hg.trans h1,h2,hb⟩,h3⟩
theorem IsMap.same {H':aa}{m:κ→Option α}(h:IsMap H r f g m)(hn:H.next≤H'.next)(hg:H'.get r=H.get r):IsMap H' r f g m:=by
 obtain⟨l,h1,h2⟩:=h
 exact⟨l,h1.same hn hg,h2⟩
theorem IsMap.le {H':aa}{m:κ→Option α}(h:IsMap H r f g m)(hl:H.le H'):IsMap H' r f g m:=h.same hl.next (hl.get r (by obtain⟨l,h1,_⟩:=h;exact h1.1))
theorem IsMap.lt {m:κ→Option α}(h:IsMap H r f g m):r<H.next:=by obtain⟨l,h1,_⟩:=h;exact h1.1
theorem IsMap.new (H:aa)(f:κ→Value)(g:α→Value):IsMap (H.alloc (.map [] 0)) H.next f g fun _=>none:=
 ⟨[],⟨by simp[YX],⟨[],0,by rw[YV,if_pos rfl],rfl,List.nodup_nil,by simp⟩,by simp⟩,fun _=>rfl⟩
end
theorem IsMap.zn {κ α:Type}[DecidableEq κ]{f:κ→Value}{g:α→Value}{m:κ→Option α}{H:aa}{p r:Nat}{cs:List Value}{ro:Bool}(h:IsMap H r f g m)(hp:H.get p=some (.cells cs ro)):p≠r:=by
 obtain⟨l,⟨_,⟨es,clock,h1,_⟩,_⟩,_⟩:=h
 rintro rfl
 rw[h1]at hp;cases hp
end
structure ay where
 slot:Int
 a:Int
 n:Int
 val:ByteArray
 deriving DecidableEq
def aG (v:ay):List Value:=[.int .i64 v.slot,.int .i64 v.a,.int .i64 v.n,.string v.val]
def vV (v:ay):Value:=.agg #[.int .i64 v.slot,.int .i64 v.a,.int .i64 v.n,.string v.val]
def kI (n:Int):Value:=.int .i64 n
def kP (p:Int×Int):Value:=.agg #[.int .i64 p.1,.int .i64 p.2]
def gS (s:ByteArray):Value:=.string s
theorem keyOf_int {P:Program}{t:TypeId}{k:IntKind}(hu:P.underlying t=some (.int k)):tZ P t kI:=by
 refine⟨fun a b=> ?_,fun e a=> ?_,fun _=>rfl,fun a=> ?_⟩
 ·refine Dn hu ?_
  simp only[kI,Instr.sameNow,if_true]
  by_cases h:a=b <;> simp[h]
 ·rw[show(10000:Nat)=9999+1 from rfl]
  unfold Instr.checkKey
  rw[aM,cz hu]
  rfl
 ·simp[kI,Instr.sameBits]
theorem keyOf_pair {P:Program}{t:TypeId}(hk:zf P 20 t=some [.i .i64,.i .i64])(ha:qH P t=some true)(hc: ∀e a b,(aB P (Instr.checkKey e 10000 t (.agg #[.int .i64 a,.int .i64 b]))).isSome=true):tZ P t kP:=by
 refine⟨fun a b=> ?_,fun e a=>hc e a.1 a.2,fun _=>rfl,fun a=> ?_⟩
 ·have h:=(P8 20 t _ hk Op.maxDepth (by decide) [.int .i64 a.1,.int .i64 a.2] [.int .i64 b.1,.int .i64 b.2] rfl rfl).1 ha
  refine h.trans ?_
  simp only[jR,nG,Bool.and_true]
  obtain⟨x,y⟩:=a
  obtain⟨z,w⟩:=b
  simp only[Prod.mk.injEq]
  by_cases h1:x=z <;> by_cases h2:y=w <;> simp[h1,h2]
 ·simp only[kP]
  rw[show(10000:Nat)=9999+1 from rfl]
  unfold Instr.sameBits
  simp[Instr.sameBits]
section
section
variable {H:aa}
theorem Ol {k:IntKind}{sh:List Sh}{d:List D}(h:iN (.i k::sh) d): ∃n d',d = .i k n::d'∧(Lit.int k n).wf=true∧iN sh d':=by
 cases d with
 |nil=>simp[iN]at h
 |cons x d=>
  simp only[iN]at h
  cases x <;> simp only[okD]at h <;> first|exact h.1.elim|skip
  obtain⟨⟨rfl,h1⟩,h2⟩:=h
  exact⟨_,_,rfl,h1,h2⟩
theorem qap {sh:List Sh}{d:List D}(h:iN (.s::sh) d): ∃x d',d = .s x::d'∧x.size≤reachBytes∧iN sh d':=by
 cases d with
 |nil=>simp[iN]at h
 |cons y d=>
  simp only[iN]at h
  cases y <;> simp only[okD]at h <;> first|exact h.1.elim|skip
  exact⟨_,_,rfl,h.1,h.2⟩
theorem Ls {d:List D}(h:iN [] d):d=[]:=by cases d <;> simp[iN]at h;rfl
theorem X0 {by' size:Nat}{e sh:List Sh}{d:List D}(h:iN (.sl by' size e::sh) d): ∃x d',d=x::d'∧okD (.sl by' size e) x∧iN sh d':=by
 cases d with
 |nil=>simp[iN]at h
 |cons y d=>simp only[iN]at h;exact⟨y,d,rfl,h⟩
theorem jV.cons_inv {vs:List Value}{x:D}{ds:List D}(h:jV H vs (x::ds)): ∃v vs',vs=v::vs'∧Qe H v x∧jV H vs' ds:=by
 cases vs with
 |nil=>have:=h.1;simp at this
 |cons v vs=>exact⟨v,vs,rfl,h.2 0 v x (by simp) (by simp),by simpa using h.1,fun j u e h1 h2=>h.2 (j+1) u e (by simpa using h1) (by simpa using h2)⟩
theorem jV.Om {vs:List Value}(h:jV H vs []):vs=[]:=by have:=h.1;simpa using this
theorem Qe.Tw {v:Value}{k:IntKind}{n:Int}(h:Qe H v (.i k n)):v = .int k n:=by cases h;rfl
theorem Qe.qbi {v:Value}{x:ByteArray}(h:Qe H v (.s x)):v = .string x:=by cases h;rfl
theorem pR.cons_inv {a:Bool}{sh:List Sh}{r:List (Bool×List Sh)}{vs:List Value}{Iq:List (List D)}(h:pR H ((a,sh)::r) vs Iq):
 ∃v vs' d qbj,vs=v::vs'∧Iq=d::qbj∧zk H a v d∧iN sh d∧pR H r vs' qbj:=by
 match vs,Iq,h with
 |[],[],h=>exact h.elim
 |v::vs,[],h=>exact h.elim
 |[],_::_,h=>exact h.elim
 |v::vs,d::Iq,h=>exact⟨v,vs,d,Iq,rfl,rfl,h⟩
theorem pR.Om {vs:List Value}{Iq:List (List D)}(h:pR H [] vs Iq):vs=[]:=by
 match vs,Iq,h with
 |[],[],_=>rfl
 |_::_,_,h=>exact h.elim
 |[],_::_,h=>exact h.elim
theorem qbk {k:IntKind}{v:Value}{d:List D}(h:zk H false v d)(ho:iN [.i k] d): ∃n,v = .int k n∧(Lit.int k n).wf=true:=by
 obtain⟨n,d',rfl,hw,h2⟩:=Ol ho
 obtain rfl:=Ls h2
 obtain⟨u,us,e,h3,h4⟩:=jV.cons_inv h
 injection e with e1 e2
 subst e1
 exact⟨n,h3.Tw,hw⟩
theorem jV.seg {vs:List Value}{ds:List D}(h:jV H vs ds)(k m:Nat):jV H ((vs.drop k).take m) ((ds.drop k).take m):=by
 refine⟨by simp[h.1],fun j v d h1 h2=> ?_⟩
 rw[List.getElem?_take]at h1 h2
 split at h1
 ·rename_i hj
  rw[if_pos hj]at h2
  rw[List.getElem?_drop]at h1 h2
  exact h.2 _ v d h1 h2
 ·cases h1
omit H in
theorem Qo: ∀(es:List (List D)) (size i:Nat),(∀d ∈ es,d.length=size)→∀hi:i<es.length,(es.flatten.drop (i*size)).take size=es[i]∧i*size+size≤es.flatten.length
 |[],_,i,_,hi=>by simp at hi
 |d::es,size,0,h,_=>by
  have:=h d (by simp)
  simp only[List.flatten_cons,Nat.zero_mul,List.drop_zero,List.getElem_cons_zero,List.length_append,Nat.zero_add]
  exact⟨by rw[←this,List.take_left],by omega⟩
 |d::es,size,i+1,h,hi=>by
  have h0:=h d (by simp)
  obtain⟨h1,h2⟩:=Qo es size i (fun x hx=>h x (by simp[hx])) (by simpa using hi)
  simp only[List.flatten_cons,List.getElem_cons_succ,List.length_append]
  have e:(i+1)*size=d.length+i*size:=by rw[h0,Nat.add_mul];omega
  refine⟨?_,by omega⟩
  rw[e,List.drop_append,List.drop_eq_nil_of_le (by omega),List.nil_append,Nat.add_sub_cancel_left]
  exact h1
theorem qaq {by' size:Nat}{e:List Sh}{v:Value}{d:List D}(wf: ∀b,H.next≤b→H.get b=none)(h:zk H false v d)(ho:iN [.sl by' size e] d):
 ∃rows:List (List Value),qJ H size v rows∧rows.length*by'≤reachBytes∧rows.length≤maxLen∧∀r ∈ rows,∃ds,jV H r ds∧iN e ds:=by
 obtain⟨x,d',rfl,hx,h2⟩:=X0 ho
 obtain rfl:=Ls h2
 obtain⟨u,us,eq,h3,h4⟩:=jV.cons_inv h
 injection eq with e1 e2
 subst e1
 cases h3 with
 |b x=>simp[okD]at hx
 |i k n=>simp[okD]at hx
 |s x=>simp[okD]at hx
 |nil=>exact⟨[],⟨none,0,rfl,fun h=>absurd rfl h⟩,by simp,by simp,by simp⟩
 |z id o=>exact⟨[],⟨_,0,rfl,fun h=>absurd rfl h⟩,by simp,by simp,by simp⟩
 |sl id len es vs hne qbe hget hvl qbl=>
  simp only[okD]at hx
  obtain⟨hle,hby,hmax,hes⟩:=hx
  have hR:jV H vs es.flatten:=⟨hvl,qbl⟩
  have hrow: ∀i,i<len→(((List.range len).map fun i=>(vs.drop (i*size)).take size)[i]? =some ((vs.drop (i*size)).take size)):=by
   intro i hi;simp[hi]
  have hseg:=fun i (hi:i<es.length)=>Qo es size i (fun d hd=>(hes d hd).1) hi
  refine⟨(List.range len).map fun i=>(vs.drop (i*size)).take size,⟨some ⟨id,0,none⟩,es.length,by simp,fun _=>⟨id,0,vs,true,rfl,?_,hget,?_⟩⟩,?_,by simp;omega,?_⟩
  ·rcases Nat.lt_or_ge id H.next with h|h
   ·exact h
   ·rw[wf id h]at hget;cases hget
  ·intro i r hr
   have hi:i<len:=by have:=(List.getElem?_eq_some_iff.1 hr).1;simpa using this
   rw[hrow i hi]at hr
   injection hr with hr
   subst hr
   have h5:=(hseg i (by omega)).2
   refine⟨by simp;omega,by simp,by omega⟩
  ·simp only[List.length_map,List.length_range]
   exact Nat.le_trans (Nat.mul_le_mul_right _ hle) hby
  ·intro r hr
   simp only[List.mem_map,List.mem_range]at hr
   obtain⟨i,hi,rfl⟩:=hr
   have hs:=hR.seg (i*size) size
   rw[(hseg i (by omega)).1]at hs
   exact⟨_,hs,(hes _ (List.getElem_mem _)).2⟩
omit H in
theorem Tx {α:Type}{f:α→List Value}: ∀{rows:List (List Value)},(∀r ∈ rows,∃a,r=f a)→∃l:List α,rows=l.map f
 |[],_=>⟨[],rfl⟩
 |r::rows,h=>by
  obtain⟨a,rfl⟩:=h r (by simp)
  obtain⟨l,rfl⟩:=Tx (rows:=rows) fun x hx=>h x (by simp[hx])
  exact⟨a::l,rfl⟩
end
end
section
structure yg where
 kind:Int
 a:Int
 b:Int
 text:ByteArray
def EU (d:yg):List Value:=[.int .i64 d.kind,.int .i64 d.a,.int .i64 d.b,.string d.text]
section
variable {H:aa}
theorem Ur {r:List Value}{d:List D}(h:jV H r d)(ho:iN [.i .i64,.i .i64,.i .i64,.s] d): ∃v,r=EU v:=by
 obtain⟨x1,d',rfl,w1,ho⟩:=Ol ho
 obtain⟨x2,d',rfl,w2,ho⟩:=Ol ho
 obtain⟨x3,d',rfl,w3,ho⟩:=Ol ho
 obtain⟨t,d',rfl,w6,ho⟩:=qap ho
 obtain rfl:=Ls ho
 obtain⟨u1,us1,rfl,r1,h⟩:=h.cons_inv
 obtain⟨u2,us2,rfl,r2,h⟩:=h.cons_inv
 obtain⟨u3,us3,rfl,r3,h⟩:=h.cons_inv
 obtain⟨u4,us4,rfl,r4,h⟩:=h.cons_inv
 obtain rfl:=h.Om
 obtain rfl:=r1.Tw
 obtain rfl:=r2.Tw
 obtain rfl:=r3.Tw
 obtain rfl:=r4.qbi
 exact⟨⟨x1,x2,x3,t⟩,rfl⟩
theorem Si {v:Value}{d:List D}(wf: ∀b,H.next≤b→H.get b=none)(h:zk H false v d)(ho:iN [.sl 40 4 [.i .i64,.i .i64,.i .i64,.s]] d): ∃l:List yg,qJ H 4 v (l.map EU):=by
 obtain⟨rows,s0,_,m0,r0⟩:=qaq wf h ho
 obtain⟨l,rfl⟩:=Tx (f:=EU) fun r hr=>by obtain⟨ds,q1,q2⟩:=r0 r hr;exact Ur q1 q2
 exact⟨l,s0⟩
end
end
def qZ (H:aa)(size:Nat)(v:Value)(rows:List (List Value)):Prop:=
 qJ H size v rows∧∃a cap,v = .slice a rows.length cap∧(a=none∨∃b o,a=some ⟨b,o,none⟩)∧((cap<dY∧rows.length≤cap)∨(cap=dY+size∧a≠none))
theorem Ng {size:Nat}{cs:List Value}: ∀(rows:List (List Value)) (o:Nat),o≤cs.length→(∀i r,rows[i]? =some r→r.length=size∧(cs.drop (o+i*size)).take size=r∧o+i*size+size≤cs.length) →
 (cs.drop o).take (rows.length*size)=rows.flatten∧o+rows.length*size≤cs.length
 |[],o,ho,_=>by simp;exact ho
 |r::rows,o,ho,h=>by
  have h0:=h 0 r (by simp)
  simp only[Nat.zero_mul,Nat.add_zero]at h0
  have ih:=Ng rows (o+size) h0.2.2 fun i x hx=>by
   have:=h (i+1) x (by simpa using hx)
   rw[Nat.add_mul,Nat.one_mul]at this
   have e:o+(i*size+size)=o+size+i*size:=by omega
   rw[e]at this;exact this
  simp only[List.length_cons,List.flatten_cons]
  have e2:(rows.length+1)*size=size+rows.length*size:=by rw[Nat.add_mul];omega
  rw[e2]
  refine⟨?_,by omega⟩
  rw[List.take_add,h0.2.1,List.drop_drop,ih.1]
theorem qZ.first {H:aa}{size:Nat}{v:Value}{rows:List (List Value)}(h:qZ H size v rows)(h0:0<size):aZ H size rows.length v=some rows.flatten:=by
 obtain⟨⟨a',cap',e,h2⟩,a,cap,rfl,ha,hc⟩:=h
 simp only[Value.slice.injEq]at e
 obtain⟨rfl,-,rfl⟩:=e
 by_cases hr:rows=[]
 ·subst hr
  rcases ha with rfl|⟨b,o,rfl⟩
  ·rfl
  ·simp[aZ]
 ·obtain⟨b,o,cs,ro,rfl,hb,hget,hrow⟩:=h2 hr
  have hl:0<rows.length:=List.length_pos_iff.2 hr
  obtain⟨r0,hr0⟩: ∃r,rows[0]? =some r:=⟨rows[0],by simp⟩
  have:=(hrow 0 r0 hr0).2.2
  obtain⟨e1,e2⟩:=Ng rows o (by omega) hrow
  have hp:0<rows.length*size:=Nat.mul_pos hl h0
  simp only[aZ,aa.aP,hget]
  rw[if_neg (by omega),if_pos e2,e1]
theorem qZ.le {H H':aa}{size:Nat}{v:Value}{rows:List (List Value)}(h:qZ H size v rows)(hl:H.le H'):qZ H' size v rows:=⟨h.1.le hl,h.2⟩
theorem qZ.len {H:aa}{size:Nat}{v:Value}{rows:List (List Value)}(h:qZ H size v rows): ∃a cap,v = .slice a rows.length cap:=by obtain⟨_,a,cap,e,_⟩:=h;exact⟨a,cap,e⟩
theorem Dc.Rx {H:aa}{size:Nat}{v:Value}{rows:List (List Value)}(h:Dc H size v rows):qZ H size v rows:=by
 refine⟨h.Lg,?_⟩
 obtain⟨_,blk,o,_,_,_,h2,rfl,_⟩:=h
 exact⟨_,_,rfl,.inr ⟨blk,o,rfl⟩,.inl ⟨h2,Nat.le_refl _⟩⟩
theorem Own.Rx {H:aa}{B size:Nat}{v:Value}{rows:List (List Value)}(h:Own H B size v rows):qZ H size v rows:=by
 refine⟨h.Lg,?_⟩
 obtain⟨_,blk,_,_,rfl,_⟩:=h
 exact⟨_,_,rfl,.inr ⟨blk,0,rfl⟩,.inr ⟨rfl,by simp⟩⟩
theorem qZ.nil (H:aa)(size:Nat):qZ H size (.slice none 0 0) []:=⟨⟨none,0,rfl,fun h=>absurd rfl h⟩,none,0,rfl,.inl rfl,.inl ⟨by unfold dY;omega,Nat.le_refl _⟩⟩
theorem Grow.Rx {H:aa}{B size:Nat}{v:Value}{rows:List (List Value)}(h:Grow H B size v rows):qZ H size v rows:=by
 rcases h with⟨rfl,rfl⟩|h
 ·exact qZ.nil H size
 ·exact h.Rx
theorem addr_add (b o n:Nat):Option.map (fun x:Addr=>x.add n) (some ⟨b,o,none⟩)=some ⟨b,o+n,none⟩:=by simp[Addr.add]
theorem qZ.cut {H:aa}{size n cap i j:Nat}{a:Option Addr}{rows:List (List Value)}(h:qZ H size (.slice a n cap) rows)(h0:0<size)(hij:i≤j)(hj:j≤rows.length):
 ∃v',cZ H size a n cap i j none=some v'∧qZ H size v' ((rows.drop i).take (j-i)):=by
 obtain⟨⟨a',cap',e,h2⟩,a'',qbm,e',ha,hc⟩:=h
 simp only[Value.slice.injEq]at e e'
 obtain⟨rfl,rfl,rfl⟩:=e
 obtain⟨rfl,-,rfl⟩:=e'
 have hlen:((rows.drop i).take (j-i)).length=j-i:=by simp;omega
 have hrows: ∀(b o:Nat) (cs:List Value) (ro:Bool),b<H.next→H.get b=some (.cells cs ro)→(∀k r,rows[k]? =some r→r.length=size∧(cs.drop (o+k*size)).take size=r∧o+k*size+size≤cs.length)→∀cap2,
  qJ H size (.slice (some ⟨b,o+i*size,none⟩) (j-i) cap2) ((rows.drop i).take (j-i)):=by
  intro b o cs ro hb hg hr cap2
  refine⟨_,cap2,by rw[hlen],fun _=>⟨b,o+i*size,cs,ro,rfl,hb,hg,fun k r hk=> ?_⟩⟩
  rw[List.getElem?_take]at hk
  split at hk
  ·rw[List.getElem?_drop]at hk
   have:=hr (i+k) r hk
   rw[Nat.add_mul]at this
   have e:o+(i*size+k*size)=o+i*size+k*size:=by omega
   rw[e]at this;exact this
  ·cases hk
 rcases hc with⟨hc1,hc2⟩|⟨hc1,hc2⟩
 ·have hz:(if cap=i then a else a.map (·.add (i*size)))=none∨∃b o,(if cap=i then a else a.map (·.add (i*size)))=some ⟨b,o,none⟩:=by
   rcases ha with rfl|⟨b,o,rfl⟩
   ·left;split <;> rfl
   ·right;split
    ·exact⟨b,o,rfl⟩
    ·exact⟨b,o+i*size,addr_add _ _ _⟩
  refine⟨.slice (if cap=i then a else a.map (·.add (i*size))) (j-i) (cap-i),?_,?_,_,_,by rw[hlen],hz,.inl ⟨by omega,by rw[hlen];omega⟩⟩
  ·simp only[cZ,hc1,if_true,Option.getD_none]
   rw[if_pos ⟨by omega,Nat.le_refl _⟩]
  ·by_cases hr:rows=[]
   ·subst hr
    simp only[List.length_nil,Nat.le_zero_eq]at hj
    subst hj
    refine⟨_,_,by rw[hlen],fun h=> ?_⟩
    simp at h
   ·obtain⟨b,o,cs,ro,rfl,hb,hget,hrow⟩:=h2 hr
    by_cases hci:cap=i
    ·have hji:j-i=0:=by omega
     rw[hji]
     exact⟨_,_,rfl,fun h=>by simp at h⟩
    ·rw[if_neg hci,addr_add]
     exact hrows b o cs ro hb hget hrow _
 ·obtain⟨b,o,rfl⟩:=ha.resolve_left hc2
  subst hc1
  have hU: ¬ (dY+size<dY):=by omega
  refine⟨.slice (some ⟨b,o+i*size,none⟩) (j-i) (dY+size),?_,?_,_,_,by rw[hlen],.inr ⟨b,_,rfl⟩,.inr ⟨rfl,by simp⟩⟩
  ·simp only[cZ,hU,if_false,Option.getD_none]
   rw[if_pos (by simp[h0,hj])]
  ·by_cases hr:rows=[]
   ·subst hr
    refine⟨_,_,by rw[hlen],fun h=> ?_⟩
    simp at h
   ·obtain⟨b',o',cs,ro,e,hb,hget,hrow⟩:=h2 hr
    simp only[Option.some.injEq,Addr.mk.injEq,and_true]at e
    obtain⟨rfl,rfl⟩:=e
    exact hrows _ _ cs ro hb hget hrow _
theorem copied {H:aa}{size bytes:Nat}{u:Value}{rows:List (List Value)}(h:qZ H size u rows)(h0:0<size)(h1:0<bytes)(hone:rows.flatten.all cO=true)(hn:rows.length*bytes≤140737488355328)(hl:rows.length≤140737488355328){B:Nat}{v:Value}{old:List (List Value)}(hv:Grow H B size v old)(hB:B≤H.next)
 (hn2:(old.length+rows.length)*bytes≤140737488355328) (hl2:old.length+rows.length≤140737488355328):
 ∃v' H',aY H size bytes v rows.length rows.flatten=some (v',H')∧Grow H' B size v' (old++rows)∧aa.keep B H H':=by
 by_cases hr:rows=[]
 ·subst hr
  refine⟨v,H,?_,by simpa using hv,aa.Um _ _⟩
  exact xm hv.buf h0 h1 (by simpa using hn2) (by simpa using hl2)
 ·have hsz: ∀r ∈ rows,r.length=size:=by
   obtain⟨⟨a',cap',e,h2⟩,_⟩:=h
   obtain⟨b,o,cs,ro,rfl,hb,hget,hrow⟩:=h2 hr
   intro r hm
   obtain⟨i,hi⟩:=List.getElem?_of_mem hm
   exact(hrow i r hi).1
  obtain⟨v',H',e1,e2,e3⟩:=hv.buf.append hB h0 h1 hn2 hl2 hsz hone hr
  exact⟨v',H',e1,.inr e2,e3⟩
def Off (v:Value)(S:List Nat):Prop:=∀b o n c,v = .slice (some ⟨b,o,none⟩) n c→b ∉ S
theorem qZ.upd {H H':aa}{S:List Nat}{size:Nat}{v:Value}{rows:List (List Value)}(h:qZ H size v rows)(ho:Off v S)(hu:aa.upd S H H'):qZ H' size v rows:=by
 obtain⟨⟨a,cap,rfl,h2⟩,h3⟩:=h
 refine⟨⟨a,cap,rfl,fun hr=> ?_⟩,h3⟩
 obtain⟨b,o,cs,ro,rfl,hb,hget,hrow⟩:=h2 hr
 exact⟨b,o,cs,ro,rfl,Nat.lt_of_lt_of_le hb hu.next,(hu.get b hb (ho b o _ _ rfl)).trans hget,hrow⟩
structure Fr (B:Nat→Prop)(H H':aa):Prop where
 next:H.next≤H'.next
 get: ∀b,b<H.next→¬ B b→H'.get b=H.get b
theorem Fr.refl (B:Nat→Prop)(H:aa):Fr B H H:=⟨Nat.le_refl _,fun _ _ _=>rfl⟩
theorem aa.le.fr {H H':aa}(h:H.le H')(B:Nat→Prop):Fr B H H':=⟨h.next,fun b hb _=>h.get b hb⟩
theorem Fr.trans {B C:Nat→Prop}{H H1 H2:aa}(h:Fr B H H1)(k:Fr C H1 H2)(hc: ∀b,C b→B b∨H.next≤b):Fr B H H2:=
 ⟨Nat.le_trans h.next k.next,fun b hb hn=>(k.get b (Nat.lt_of_lt_of_le hb h.next) fun hx=>(hc b hx).elim hn (fun hx=>Nat.not_lt.2 hx hb)).trans (h.get b hb hn)⟩
theorem Fr.jg {B:Nat→Prop}{H H1 H2:aa}(h:Fr B H H1)(k:H1.le H2):Fr B H H2:=h.trans (k.fr fun _=>False) (fun _ hb=>hb.elim)
theorem aa.le.lq {B:Nat→Prop}{H H1 H2:aa}(h:H.le H1)(k:Fr B H1 H2):Fr B H H2:=(h.fr B).trans k fun _ hb=>.inl hb
theorem Fr.weak {B C:Nat→Prop}{H H':aa}(h:Fr B H H')(hc: ∀b,B b→C b):Fr C H H':=⟨h.next,fun b hb hn=>h.get b hb fun hx=>hn (hc b hx)⟩
theorem Fr.le {B:Nat→Prop}{H H':aa}(h:Fr B H H')(hb: ∀b,B b→H.next≤b):H.le H':=⟨h.next,fun b hb'=>h.get b hb' fun hx=>Nat.not_lt.2 (hb b hx) hb'⟩
theorem Fr.set {B:Nat→Prop}{H H':aa}(h:Fr B H H'){i:Nat}(hi:B i∨H.next≤i)(o:fK):Fr B H (H'.set i o):=⟨h.next,fun b hb hn=>by
 rw[YW,if_neg (by rintro rfl;rcases hi with hi|hi;exact hn hi;omega)];exact h.get b hb hn⟩
theorem Fr.alloc {B:Nat→Prop}{H H':aa}(h:Fr B H H')(o:fK):Fr B H (H'.alloc o):=h.jg (H'.aj o)
theorem aa.upd.fr {S:List Nat}{H H':aa}(h:aa.upd S H H'){B:Nat→Prop}(hs: ∀b ∈ S,B b):Fr B H H':=⟨h.next,fun b hb hn=>h.get b hb fun hm=>hn (hs b hm)⟩
theorem Dy {cs r:List Value}{p n:Nat}(h:(cs.drop p).take n=r)(j:Nat)(hj:j<n):cs[p+j]? =r[j]? :=by
 rw[←h,List.getElem?_take,if_pos hj,List.getElem?_drop]
def Py (D:Nat→Prop)(H:aa)(size:Nat)(v:Value)(rows:List (List Value)):Prop:=
 qJ H size v rows∧∀b o n c,v = .slice (some ⟨b,o,none⟩) n c→rows≠[]→D b
theorem Py.sl {D:Nat→Prop}{H:aa}{size:Nat}{v:Value}{rows:List (List Value)}(h:Py D H size v rows):qJ H size v rows:=h.1
theorem Py.weak {D D':Nat→Prop}{H:aa}{size:Nat}{v:Value}{rows:List (List Value)}(h:Py D H size v rows)(hd: ∀b,D b→D' b):Py D' H size v rows:=⟨h.1,fun b o n c e hr=>hd b (h.2 b o n c e hr)⟩
theorem Py.fr {B D:Nat→Prop}{H H':aa}{size:Nat}{v:Value}{rows:List (List Value)}(h:Py D H size v rows)(k:Fr B H H')(hd: ∀b,D b→¬ B b):Py D H' size v rows:=by
 obtain⟨⟨a,cap,rfl,h2⟩,h3⟩:=h
 refine⟨⟨a,cap,rfl,fun hr=> ?_⟩,h3⟩
 obtain⟨b,o,cs,ro,rfl,hb,hget,hrow⟩:=h2 hr
 exact⟨b,o,cs,ro,rfl,Nat.lt_of_lt_of_le hb k.next,(k.get b hb (hd b (h3 b o _ _ rfl hr))).trans hget,hrow⟩
theorem Py.le {D:Nat→Prop}{H H':aa}{size:Nat}{v:Value}{rows:List (List Value)}(h:Py D H size v rows)(k:H.le H'):Py D H' size v rows:=⟨h.1.le k,h.2⟩
theorem qJ.slD {H:aa}{size:Nat}{v:Value}{rows:List (List Value)}(h:qJ H size v rows):Py (fun b=>b<H.next) H size v rows:=by
 refine⟨h,fun b o n c e hr=> ?_⟩
 obtain⟨a,cap,rfl,h2⟩:=h
 obtain⟨b',o',cs,ro,rfl,hb,_⟩:=h2 hr
 simp only[Value.slice.injEq,Option.some.injEq,Addr.mk.injEq]at e
 obtain⟨⟨rfl,-⟩,-⟩:=e
 exact hb
theorem Own.slD {H:aa}{B size:Nat}{v:Value}{rows:List (List Value)}(h:Own H B size v rows):Py (fun b=>B≤b∧b<H.next) H size v rows:=by
 refine⟨h.Lg,fun b o n c e _=> ?_⟩
 obtain⟨_,blk,h1,h2,rfl,_⟩:=h
 simp only[Value.slice.injEq,Option.some.injEq,Addr.mk.injEq]at e
 obtain⟨⟨rfl,-⟩,-⟩:=e
 exact⟨h1,h2⟩
theorem Grow.slD {H:aa}{B size:Nat}{v:Value}{rows:List (List Value)}(h:Grow H B size v rows):Py (fun b=>B≤b∧b<H.next) H size v rows:=by
 rcases h with⟨rfl,rfl⟩|h
 ·exact⟨Grow.Lg (B:=B) (.inl ⟨rfl,rfl⟩),fun _ _ _ _ _ h=>absurd rfl h⟩
 ·exact h.slD
section
def Qp (es:List MapEntry)(seen:List Nat):Nat:=(es.filter fun e=>decide (e.born ∉ seen)).length
theorem filter_lt {α:Type}{p q:α→Bool}(hpq: ∀x,q x=true→p x=true): ∀{l:List α} {e:α},e ∈ l→p e=true→q e=false→(l.filter q).length<(l.filter p).length
 |x::l,e,he,h1,h2=>by
  have mono: ∀l:List α,(l.filter q).length≤(l.filter p).length:=by
   intro l
   induction l with
   |nil=>simp
   |cons y l ih=>
    simp only[List.filter_cons]
    cases hq:q y with
    |true=>rw[hpq y hq];simp only[if_true,List.length_cons];omega
    |false=>cases hp:p y <;> simp only[Bool.false_eq_true,if_false,if_true,List.length_cons] <;> omega
  simp only[List.filter_cons]
  rcases List.mem_cons.1 he with rfl|he
  ·rw[h1,h2]
   simp only[if_true,Bool.false_eq_true,if_false,List.length_cons]
   have:=mono l;omega
  ·have ih:=filter_lt hpq he h1 h2
   cases hq:q x with
   |true=>rw[hpq x hq];simp only[if_true,List.length_cons];omega
   |false=>cases hp:p x <;> simp only[Bool.false_eq_true,if_false,if_true,List.length_cons] <;> omega
 |[],_,he,_,_=>by simp at he
theorem Wi {es:List MapEntry}{seen:List Nat}{e:MapEntry}(he:e ∈ es)(hn:e.born ∉ seen):Qp es (seen++[e.born])<Qp es seen:=by
 unfold Qp
 refine filter_lt (fun x hx=> ?_) he (by simpa using hn) (by simp)
 simp only[List.mem_append,not_or,decide_eq_true_eq]at hx ⊢
 exact hx.1
theorem X3 {H:aa}{it r clock:Nat}{es:List MapEntry}{seen:List Nat}{K:Value→aa→Prop}(h1:H.get it=some (.iter (some r) clock seen clock))(h2:H.get r=some (.map es clock))(hb:pU es clock)
 (hend:(∀e ∈ es,e.born ∈ seen)→K (.tuple #[.bool false]) H)
 (hgo: ∀e ∈ es,e.born ∉ seen→K (.tuple #[.bool true,e.key,e.val]) (H.set it (.iter (some r) clock (seen++[e.born]) clock))):rQ H K (.pointer (some ⟨it,0,none⟩)):=by
 simp only[rQ,h1,h2]
 refine⟨?_,fun h=>hend fun e he=> ?_,hgo⟩
 ·cases es with
  |nil=>exact .inr (.inl rfl)
  |cons e es=>exact .inr (.inr ⟨e,by simp,hb.2 e (by simp)⟩)
 ·refine Classical.byContradiction fun hn=> ?_
  have h3:=h e he hn
  have h4:=hb.2 e he
  omega
theorem Wj {H:aa}{it r clock since:Nat}{es:List MapEntry}{seen:List Nat}{e:MapEntry}{K:Value→aa→Prop}(h1:H.get it=some (.iter (some r) since (seen++[e.born]) clock))(h2:H.get r=some (.map es clock))(hb:pU es clock)
 (he:e ∈ es) (hK:K (.tuple #[e.key,e.val]) H):uu H K (.pointer (some ⟨it,0,none⟩)):=by
 simp only[uu,h1,h2]
 refine⟨trivial,seen,e.born,rfl,e,?_,hK⟩
 have hn:=hb.1
 clear hK h1 h2 hb
 induction es with
 |nil=>simp at he
 |cons x es ih=>
  rw[List.find?_cons]
  simp only[List.map_cons,List.nodup_cons]at hn
  rcases List.mem_cons.1 he with rfl|he
  ·simp
  ·have:x.born≠e.born:=fun q=>hn.1 (q▸List.mem_map.2 ⟨e,he,rfl⟩)
   have hf:(x.born == e.born)=false:=by simpa using this
   rw[hf]
   exact ih he hn.2
section
variable {κ α:Type} [DecidableEq κ] {f:κ→Value} {g:α→Value} {H:aa} {r:Nat} {m:κ→Option α}
theorem Us {l:List (κ×α)}{k:κ}{a:α}(h:kM l k=some a):(k,a) ∈ l:=by
 unfold kM at h
 simp only[Option.map_eq_some_iff]at h
 obtain⟨p,hp,rfl⟩:=h
 have h1:=List.find?_some hp
 have h2:=List.mem_of_find?_eq_some hp
 simp only[decide_eq_true_eq]at h1
 rw[←h1];exact h2
theorem Wl {l:List (κ×α)}(hn:(l.map (·.1)).Nodup){k:κ}{a:α}(h:(k,a) ∈ l):kM l k=some a:=by
 induction l with
 |nil=>simp at h
 |cons p l ih=>
  simp only[List.map_cons,List.nodup_cons]at hn
  rw[dL]
  rcases List.mem_cons.1 h with rfl|h
  ·rw[if_pos rfl]
  ·have hne: ¬ p.1=k:=fun e=>hn.1 (by rw[e];exact List.mem_map.2 ⟨_,h,rfl⟩)
   rw[if_neg hne,ih hn.2 h]
theorem IsMap.entries (h:IsMap H r f g m): ∃es clock,H.get r=some (.map es clock)∧pU es clock∧(∀e ∈ es,∃k a,e.key=f k∧e.val=g a∧m k=some a)∧∀k a,m k=some a→∃e ∈ es,e.key=f k∧e.val=g a:=by
 obtain⟨l,⟨_,⟨es,clock,h1,h2,h3⟩,hn⟩,hm⟩:=h
 refine⟨es,clock,h1,h3,fun e he=> ?_,fun k a hk=> ?_⟩
 ·have:(e.key,e.val) ∈ l.map fun p=>(f p.1,g p.2):=by rw[←h2];exact List.mem_map.2 ⟨e,he,rfl⟩
  obtain⟨⟨k,a⟩,hp,hq⟩:=List.mem_map.1 this
  simp only[Prod.mk.injEq]at hq
  exact⟨k,a,hq.1.symm,hq.2.symm,by rw[←hm];exact Wl hn hp⟩
 ·rw[←hm]at hk
  have h4:=Us hk
  have:(f k,g a) ∈ es.map fun e=>(e.key,e.val):=by rw[h2];exact List.mem_map.2 ⟨_,h4,rfl⟩
  obtain⟨e,he,hq⟩:=List.mem_map.1 this
  simp only[Prod.mk.injEq]at hq
  exact⟨e,he,hq.1,hq.2⟩
end
end
abbrev IJ:Nat:=1
abbrev EW:Nat:=2
abbrev Oo:Nat:=3
abbrev Oq:Nat:=4
abbrev Lt:Nat:=5
def qL (F:Nat→FuncId)(Ty:Nat→TypeId):aA:=⟨6,[.tmp 2],.seq (.ops [⟨some 2,.move (.const (.bool false)),none⟩]) (.seq (.ops [⟨some 3,.move (.tmp 0),none⟩,⟨some 4,.move (.tmp 0),none⟩,⟨some 5,.bin .neq (.tmp 3) (.tmp 4),none⟩,⟨some 2,.move (.tmp 5),none⟩]) (.ret))⟩
def nU (F:Nat→FuncId)(Ty:Nat→TypeId):aA:=⟨20,[.tmp 4],.seq (.ops [⟨some 4,.move (.const (.int .i64 0)),none⟩]) (.seq (.ops [⟨some 7,.move (.tmp 0),none⟩,⟨some 8,.call (F 1) [.tmp 7],none⟩,⟨some 5,.move (.tmp 8),none⟩]) (.seq (.ops [⟨some 9,.move (.tmp 1),none⟩,⟨some 10,.call (F 1) [.tmp 9],none⟩,⟨some 6,.move (.tmp 10),none⟩]) (.seq (.seq (.ops [⟨some 11,.move (.tmp 5),none⟩]) (.cond (.tmp 11) (.seq (.seq (.ops [⟨some 12,.move (.tmp 6),none⟩]) (.cond (.tmp 12) (.seq (.ops [⟨some 4,.move (.const (.int .i64 0)),none⟩]) (.ret)) (.skip))) (.seq (.ops [⟨some 4,.move (.const (.int .i64 (-1))),none⟩]) (.ret))) (.skip))) (.seq (.seq (.ops [⟨some 13,.move (.tmp 6),none⟩]) (.cond (.tmp 13) (.seq (.ops [⟨some 4,.move (.const (.int .i64 1)),none⟩]) (.ret)) (.skip))) (.seq (.seq (.ops [⟨some 14,.move (.tmp 0),none⟩,⟨some 15,.move (.tmp 1),none⟩,⟨some 16,.bin .lss (.tmp 14) (.tmp 15),none⟩]) (.cond (.tmp 16) (.seq (.ops [⟨some 4,.move (.const (.int .i64 (-1))),none⟩]) (.ret)) (.skip))) (.seq (.seq (.ops [⟨some 17,.move (.tmp 0),none⟩,⟨some 18,.move (.tmp 1),none⟩,⟨some 19,.bin .gtr (.tmp 17) (.tmp 18),none⟩]) (.cond (.tmp 19) (.seq (.ops [⟨some 4,.move (.const (.int .i64 1)),none⟩]) (.ret)) (.skip))) (.seq (.ops [⟨some 4,.move (.const (.int .i64 0)),none⟩]) (.ret))))))))⟩
def xu (F:Nat→FuncId)(Ty:Nat→TypeId):aA:=⟨18,[.tmp 2],.seq (.ops [⟨some 2,.move (.const (.int .i64 0)),none⟩]) (.seq (.ops [⟨some 3,.move (.const (.int .i64 0)),none⟩]) (.seq (.seq (.ops [⟨some 6,.move (.tmp 0),none⟩,⟨some 7,.bR (.tmp 6),none⟩,⟨some 8,.move (.const (.int .i64 0)),none⟩]) (.block 0 (.loop (.seq (.ops [⟨some 9,.bin .lss (.tmp 8) (.tmp 7),none⟩]) (.seq (.cond (.tmp 9) (.skip) (.exit 0)) (.seq (.block 1 (.seq (.ops [⟨some 10,.bg 1 (.tmp 6) (.tmp 8),none⟩,⟨some 11,.ah (.tmp 10),none⟩,⟨some 5,.move (.tmp 11),none⟩]) (.seq (.ops [⟨some 12,.move (.tmp 5),none⟩,⟨some 13,.move (.tmp 3),none⟩,⟨some 14,.bin .neq (.tmp 12) (.tmp 13),none⟩]) (.cond (.tmp 14) (.seq (.ops [⟨some 15,.move (.tmp 5),none⟩,⟨some 2,.move (.tmp 15),none⟩]) (.ret)) (.skip))))) (.ops [⟨some 16,.bin .add (.tmp 8) (.const (.int .i64 1)),none⟩,⟨some 8,.move (.tmp 16),none⟩]))))))) (.seq (.ops [⟨some 17,.move (.tmp 3),none⟩,⟨some 2,.move (.tmp 17),none⟩]) (.ret))))⟩
def xw (F:Nat→FuncId)(Ty:Nat→TypeId):aA:=⟨17,[.tmp 4],.seq (.ops [⟨some 2,.box (.tmp 0),none⟩,⟨some 3,.box (.tmp 1),none⟩,⟨some 4,.move (.const (.int .i64 0)),none⟩]) (.seq (.draw [(⟨some 5,.fieldAddr 0 (.tmp 2),none⟩,[]),(⟨some 6,.ah (.tmp 5),none⟩,[]),(⟨some 7,.fieldAddr 0 (.tmp 3),none⟩,[]),(⟨some 8,.ah (.tmp 7),none⟩,[]),(⟨some 10,.fieldAddr 1 (.tmp 2),none⟩,[]),(⟨some 11,.ah (.tmp 10),none⟩,[]),(⟨some 12,.fieldAddr 1 (.tmp 3),none⟩,[]),(⟨some 13,.ah (.tmp 12),none⟩,[]),(⟨some 9,.call (F 2) [.tmp 6,.tmp 8],none⟩,[⟨some 11,.ah (.tmp 10),none⟩,⟨some 13,.ah (.tmp 12),none⟩]),(⟨some 14,.call (F 2) [.tmp 11,.tmp 13],none⟩,[]),(⟨some 15,.buildSlice 2 [.int .i64 0,.int .i64 0] [((0,1),.tmp 9),((1,1),.tmp 14)],none⟩,[]),(⟨some 16,.call (F 3) [.tmp 15],none⟩,[]),(⟨some 4,.move (.tmp 16),none⟩,[])]) (.ret))⟩
def rY (F:Nat→FuncId)(Ty:Nat→TypeId):aA:=⟨21,[.tmp 2],.seq (.ops [⟨some 1,.box (.tmp 0),none⟩,⟨some 2,.move (.const (.bool false)),none⟩]) (.seq (.ops [⟨some 3,.fieldAddr 0 (.tmp 1),none⟩,⟨some 4,.ah (.tmp 3),none⟩,⟨some 5,.bin .geq (.tmp 4) (.const (.int .i64 0)),none⟩,⟨some 6,.move (.tmp 5),none⟩,⟨some 7,.fieldAddr 0 (.tmp 1),some (6,true)⟩,⟨some 8,.ah (.tmp 7),some (6,true)⟩,⟨some 9,.bin .lss (.tmp 8) (.const (.int .i64 2147483648)),some (6,true)⟩,⟨some 10,.pick (.tmp 6) (.tmp 9) (.const (.bool false)),none⟩,⟨some 11,.move (.tmp 10),none⟩,⟨some 12,.fieldAddr 1 (.tmp 1),some (11,true)⟩,⟨some 13,.ah (.tmp 12),some (11,true)⟩,⟨some 14,.bin .geq (.tmp 13) (.const (.int .i64 0)),some (11,true)⟩,⟨some 15,.pick (.tmp 11) (.tmp 14) (.const (.bool false)),none⟩,⟨some 16,.move (.tmp 15),none⟩,⟨some 17,.fieldAddr 1 (.tmp 1),some (16,true)⟩,⟨some 18,.ah (.tmp 17),some (16,true)⟩,⟨some 19,.bin .lss (.tmp 18) (.const (.int .i64 7)),some (16,true)⟩,⟨some 20,.pick (.tmp 16) (.tmp 19) (.const (.bool false)),none⟩,⟨some 2,.move (.tmp 20),none⟩]) (.ret))⟩
structure iG (c:Ctx):Prop where
 cmp_isNaN_int:c.IP (c.F 1)=some (qL c.F c.Ty)
 cmp_Compare_int:c.IP (c.F 2)=some (nU c.F c.Ty)
 Sj:c.IP (c.F 3)=some (xu c.F c.Ty)
 Sk:c.IP (c.F 4)=some (xw c.F c.Ty)
 Ot:c.IP (c.F 5)=some (rY c.F c.Ty)
abbrev IK:Nat:=7
abbrev zo:Nat:=18
def qM (F:Nat→FuncId)(Ty:Nat→TypeId):aA:=⟨12,[.tmp 2],.seq (.ops [⟨some 2,.move (.const (.int .i64 0)),none⟩]) (.seq (.seq (.ops [⟨some 3,.move (.tmp 0),none⟩,⟨some 4,.bin .lss (.tmp 3) (.const (.int .i64 1)),none⟩,⟨some 5,.move (.tmp 4),none⟩,⟨some 6,.move (.tmp 0),some (5,false)⟩,⟨some 7,.bin .gtr (.tmp 6) (.const (.int .i64 7)),some (5,false)⟩,⟨some 8,.pick (.tmp 5) (.const (.bool true)) (.tmp 7),none⟩]) (.cond (.tmp 8) (.seq (.ops [⟨some 2,.move (.const (.int .i64 0)),none⟩]) (.ret)) (.skip))) (.seq (.ops [⟨some 9,.move (.tmp 0),none⟩,⟨some 10,.bin .quo (.tmp 9) (.const (.int .i64 2)),none⟩,⟨some 11,.bin .add (.tmp 10) (.const (.int .i64 1)),none⟩,⟨some 2,.move (.tmp 11),none⟩]) (.ret)))⟩
def lu (F:Nat→FuncId)(Ty:Nat→TypeId):aA:=⟨12,[.tmp 2],.seq (.ops [⟨some 2,.move (.const (.int .i64 0)),none⟩]) (.seq (.seq (.ops [⟨some 3,.move (.tmp 0),none⟩,⟨some 4,.bin .lss (.tmp 3) (.const (.int .i64 1)),none⟩,⟨some 5,.move (.tmp 4),none⟩,⟨some 6,.move (.tmp 0),some (5,false)⟩,⟨some 7,.bin .gtr (.tmp 6) (.const (.int .i64 7)),some (5,false)⟩,⟨some 8,.pick (.tmp 5) (.const (.bool true)) (.tmp 7),none⟩]) (.cond (.tmp 8) (.seq (.ops [⟨some 2,.move (.const (.int .i64 0)),none⟩]) (.ret)) (.skip))) (.seq (.ops [⟨some 9,.move (.tmp 0),none⟩,⟨some 10,.bin .quo (.tmp 9) (.const (.int .i64 2)),none⟩,⟨some 11,.bin .add (.tmp 10) (.const (.int .i64 1)),none⟩,⟨some 2,.move (.tmp 11),none⟩]) (.ret)))⟩
structure bN (c:Ctx):Prop where
 Mw:c.IP (c.F 7)=some (qM c.F c.Ty)
 Dz:c.IP (c.F 18)=some (lu c.F c.Ty)
section
attribute [local simp] J0 J1 J2 J3 J4 J5 J6 J7 J8 J9 Ja Jb Jc Jd Je Jf Jg Jh Ji Jj Jk Jl Jm Jn Jo Jp Jq Jr Js Jt Ju Jv Jw Jx Jy Jz JA JB JC JD JE JF JG JH JI JJ JK JL JM JN JO JP JQ JR JS aQ bZ.kind JT JU JV JW JX JY JZ Y0 Y1 Y2 Y3 Y4 Y5 Y6 Y7 Y8 Y9 Ya Yb Yc Yd Ye Yf Yg Yh Yi Yj Yk Yl Ym Yn Yo Yp Yq jq Yr Ys Yt Yu Yv Yw Yx Yy dZ bA bE Yz YA YB YC YD YE eO YF YG YH YI YJ YK YL YM YN YO YP YQ YR YS YT YU nP bK jR nG bu putAt aa.ah aa.aP aa.aK YV YW YX YY YZ B0 B1 B2 B3 B4 B5 B6 B7 B8 B9 Ba Bb Bc Bd Be Bf Bg Bh Bi Bj Bk Bl Bm Bn Bo Bp
section
def Mx (a b:Int):Int:=if a<b then -1 else if b<a then 1 else 0
def lX (a n b m:Int):Int:=if Mx a b=0 then Mx n m else Mx a b
def bJ (a n:Int):Bool:=decide (0≤a∧a<2147483648∧0≤n∧n<7)
def qx (a node:Int):Int×Int:=if a<0∨2147483647≤a then (0,0)else (a+1,if 6<(if 0>node then 0 else node)then 6 else (if 0>node then 0 else node))
def aO (n:Int):Int:=if n<1∨7<n then 0 else n.tdiv 2+1
def vB (a n:Int):Value:=.agg #[.int .i64 a,.int .i64 n]
section
variable (c:Ctx) (hc:iG c) {H:aa} {K:Value→aa→Prop}
include hc
theorem Qq {a:Int}(hK:K (.bool false) H):c.C (c.F IJ) [.int .i64 a] H K:=by
 refine c.enter hc.cmp_isNaN_int rfl ?_
 simp -implicitDefEqProofs [qL]
 exact hK
theorem Lu {a b:Int}(hK:K (.int .i64 (Mx a b)) H):c.C (c.F EW) [.int .i64 a,.int .i64 b] H K:=by
 refine c.enter hc.cmp_Compare_int rfl ?_
 simp -implicitDefEqProofs [nU]
 refine av (Qq c hc ?_)
 simp -implicitDefEqProofs []
 refine av (Qq c hc ?_)
 simp -implicitDefEqProofs []
 unfold Mx at hK
 by_cases h1:a<b
 ·simp -implicitDefEqProofs [h1]
  simpa[h1]using hK
 ·by_cases h2:b<a
  ·simp -implicitDefEqProofs [h1,h2]
   simpa[h1,h2]using hK
  ·simp -implicitDefEqProofs [h1,h2]
   simpa[h1,h2]using hK
theorem qbn {a b:Int}{i:Nat}(hi:H.get i=some (.cells [.int .i64 a,.int .i64 b] false))(hK:K (.int .i64 (if a=0 then b else a)) H):
 c.C (c.F Oo) [.slice (some ⟨i,0,none⟩) 2 2] H K:=by
 refine c.enter hc.Sj rfl ?_
 have w1:IntKind.i64.wrap 1=1:=by decide
 have w2:IntKind.i64.wrap 2=2:=by decide
 simp -implicitDefEqProofs [xu]
 refine aS c.mono (fun n T H'=>H'=H∧T 0 = .slice (some ⟨i,0,none⟩) 2 2∧T 3 = .int .i64 0∧T 6 = .slice (some ⟨i,0,none⟩) 2 2∧T 7 = .int .i64 2∧((n=2∧T 8 = .int .i64 0)∨(n=1∧T 8 = .int .i64 1∧a=0)∨(n=0∧T 8 = .int .i64 2∧a=0∧b=0))) 2 ?_ ?_
 ·simp -implicitDefEqProofs []
 ·rintro n T H' ⟨rfl,h0,h3,h6,h7,⟨rfl,h8⟩|⟨rfl,h8,rfl⟩|⟨rfl,h8,rfl,rfl⟩⟩
  ·by_cases ha:a=0
   ·subst ha
    simp -implicitDefEqProofs [h0,h3,h6,h7,h8,hi]
    exact⟨1,by omega,.inr (.inl ⟨rfl,w1⟩)⟩
   ·simp -implicitDefEqProofs [h0,h3,h6,h7,h8,hi,ha]
    simpa[ha]using hK
  ·by_cases hb:b=0
   ·subst hb
    simp -implicitDefEqProofs [h0,h3,h6,h7,h8,hi]
    exact w2
   ·simp -implicitDefEqProofs [h0,h3,h6,h7,h8,hi,hb]
    simpa[hb]using hK
  ·simp -implicitDefEqProofs [h0,h3,h6,h7,h8,hi]
   simpa using hK
theorem Lv {a n b m:Int}(hK: ∀H',H.le H'→K (.int .i64 (lX a n b m)) H'):
 c.C (c.F Oq) [vB a n,vB b m] H K:=by
 refine c.enter hc.Sk rfl ?_
 simp -implicitDefEqProofs [xw,vB]
 refine aI c.mono (Lu c hc ?_)
 simp -implicitDefEqProofs []
 refine aI c.mono (Lu c hc ?_)
 simp -implicitDefEqProofs []
 refine aI c.mono (qbn c hc (a:=Mx a b) (b:=Mx n m) ?_ ?_)
 ·simp -implicitDefEqProofs []
 ·simp -implicitDefEqProofs []
  exact hK _ (by(repeat' first|exact aa.le_refl _|assumption|apply aa.le.alloc|(refine aa.le.set ?_ (by(try simp only[YX,YY]);omega) _)|(refine aa.le.trans ?_ (by assumption))))
theorem zq {a n:Int}(hK: ∀H',H.le H'→K (.bool (bJ a n)) H'):c.C (c.F Lt) [vB a n] H K:=by
 refine c.enter hc.Ot rfl ?_
 have hK':=hK (H.alloc (.cells [.int .i64 a,.int .i64 n] false)) (by(repeat' first|exact aa.le_refl _|assumption|apply aa.le.alloc|(refine aa.le.set ?_ (by(try simp only[YX,YY]);omega) _)|(refine aa.le.trans ?_ (by assumption))))
 simp -implicitDefEqProofs [rY,vB]
 unfold bJ at hK'
 by_cases h1:0≤a
 ·by_cases h2:a<2147483648
  ·by_cases h3:0≤n
   ·simp -implicitDefEqProofs [h1,h2,h3]
    simpa[h1,h2,h3]using hK'
   ·simp -implicitDefEqProofs [h1,h2,h3]
    simpa[h1,h2,h3]using hK'
  ·simp -implicitDefEqProofs [h1,h2]
   simpa[h1,h2]using hK'
 ·simp -implicitDefEqProofs [h1]
  simpa[h1]using hK'
end
end
end
end Go.Proofs.YtpbbjfighohokaaGreatI
