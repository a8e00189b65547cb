/- The machine of closures: operations that lay things. / The machine of closures: slices, equality, ranges, calls; each operation; code. -/
import Derived.Test.YtofpmkhcbijilaaGreatDoorMachF
namespace Go.Proofs.YtofpmkhcbijilaaGreatDoorI
open Go
set_option linter.unusedSimpArgs false
set_option linter.unusedVariables false
section
section
variable {P:Program}
theorem vI: ∀(l:List ((Nat×Nat)×Operand)) {e:Tr Value} {cs:List Value} {K:List Value→Bool},(P7 l).run e cs K=true →
 ∃r,bZ cs (l.map fun p=>(p.1,ev (toE e) p.2))=some r∧K r=true
 |[],e,cs,K,h=>⟨cs,rfl,h⟩
 |p::l,e,cs,K,h=>by
  have h:(ko p.2).get e (fun v=>FU v fun x=>bif Nat.beq (mr x) p.1.2 then bif RB cs (Nat.add p.1.1 p.1.2)then Nk cs p.1.1 x fun cs=>(P7 l).run e cs K else false else false)=true:=h
  have h:=aO h
  rw[FY]at h
  obtain⟨h1,h⟩:=dJ h
  obtain⟨h2,h⟩:=dJ h
  have h1:=Nat.eq_of_beq_eq_true h1
  rw[fE]at h1
  rw[nQ,decide_eq_true_eq]at h2
  have h2:p.1.1+p.1.2≤cs.length:=h2
  rw[D5,vo _ _ _ (by omega)]at h
  obtain⟨r,h3,h4⟩:=vI l h
  refine⟨r,?_,h4⟩
  have hs:(ev (toE e) p.2).cells.size=p.1.2:=by rw[←h1];simp
  obtain⟨⟨off,size⟩,x⟩:=p
  simp only[List.map_cons,bZ]
  rw[if_pos ⟨hs,by rw[hs];exact h2⟩]
  exact h3
theorem WQ (z:List Value)(ps:List ((Nat×Nat)×Operand)):iV P (.build z ps) (vD P (.build z ps)):=jf rfl fun call e h K hk=>by
 obtain⟨r,h1,h2⟩:=vI ps hk
 simp only[bB,h1]
 exact⟨_,rfl,h2⟩
theorem Lu (n:Nat)(z:List Value)(ps:List ((Nat×Nat)×Operand)):iV P (.buildSlice n z ps) (vD P (.buildSlice n z ps)):=Vs rfl fun call e h K hk=>by
 obtain⟨r,h1,h2⟩:=vI ps hk
 obtain⟨h',h3,h4⟩:=jT h2
 simp only[j3,h1]
 exact⟨_,h',rfl,h3,h4⟩
theorem WR (cells:List Value):iV P (.alloc cells) (vD P (.alloc cells)):=Vs rfl fun call e h K hk=>by
 obtain⟨h',h3,h4⟩:=jT hk
 exact⟨_,h',rfl,h3,h4⟩
theorem qcr (a:Operand):iV P (.box a) (vD P (.box a)):=Vs rfl fun call e h K hk=>by
 have hk:=aO hk
 rw[FY]at hk
 obtain⟨h',h3,h4⟩:=jT hk
 exact⟨_,h',rfl,h3,h4⟩
theorem Oy (z:List Value): ∀(c:Nat) (K:List Value→Bool),Uj z c K=K (AQ z c)
 |0,_=>rfl
 |c+1,K=>by
  show Uj z c (fun l=>Ij z l K)=_
  rw[Oy z c,rV]
  show K (z++AQ z c)=K (TV z (AQ z c))
  rw[Kc]
theorem RQ (b:Nat)(z:List Value)(l c:Operand):iV P (.mkSlice b z l c) (vD P (.mkSlice b z l c)):=Vs rfl fun call e h K hk=>by
 obtain⟨k1,m,hv,hk⟩:=jU (aO (aO hk))
 obtain⟨k2,n,hw,hk⟩:=jU hk
 obtain⟨h1,hk⟩:=dJ hk
 obtain⟨h2,hk⟩:=dJ hk
 obtain⟨h3,hk⟩:=dJ hk
 have h1:=iW h1
 have h2:=iW h2
 have h3:=iW h3
 have h3:n*b≤17592186044416:=h3
 rw[Oy]at hk
 obtain⟨h',h4,h5⟩:=jT hk
 simp only[j3,hv,hw]
 rw[if_pos ⟨Int.natCast_nonneg m,Int.ofNat_le.2 h1,by show(n:Int)≤_;omega,by show(n:Int)*(b:Int)≤_;rw[←Int.natCast_mul];omega⟩]
 refine⟨_,h',rfl,h4,?_⟩
 rw[h5]
 show _=h.toI.alloc (.cells ((Array.range (n*z.length)).map (z.toArray[· % z.toArray.size]!)).toList false)
 rw[Ot]
theorem Hz {h:HT}{b o:Nat}{vs:List Value}{K:HT→Bool}(hk:qag h b o vs K=true): ∃h',h.toI.aK b o vs=some h'.toI∧K h'=true:=by
 obtain⟨cs,ro,hg,hk⟩:=iJ hk
 cases ro with
 |true=>cases hk
 |false=>
  have hk:(bif RB cs (Nat.add o (mr vs))then (bif RD fo vs then Nk cs o vs fun cs=>h.Uf b (.cells cs false) K else false)else false)=true:=hk
  obtain⟨h1,hk⟩:=dJ hk
  obtain⟨h2,hk⟩:=dJ hk
  rw[nQ,decide_eq_true_eq,fE]at h1
  rw[yL]at h2
  have h1:o+vs.length≤cs.length:=h1
  rw[D5,vo _ _ _ h1]at hk
  obtain⟨h',k1,k2⟩:=vF hk
  refine⟨h',?_,k1⟩
  simp only[aa.aK,hg]
  rw[if_pos ⟨h1,h2⟩,k2]
theorem WS (n:Nat)(a x:Operand):iV P (.store n a x) (vD P (.store n a x)):=qar rfl fun call e h K hk=>by
 obtain⟨b,o,hv,hk⟩:=q9 (aO (aO hk))
 rw[FY]at hk
 obtain⟨h1,hk⟩:=dJ hk
 have h1:=Nat.eq_of_beq_eq_true h1
 rw[fE]at h1
 obtain⟨h',k1,k2⟩:=Hz hk
 simp only[fQ,hv]
 rw[if_pos h1,k1]
 exact⟨_,_,h',rfl,k2,rfl⟩
theorem Qc {size n:Nat}{v:Value}{h:HT}{K:List Value→Bool}(hk:Uh size n v h K=true): ∃l,aY h.toI size n v=some l∧K l=true:=by
 unfold Uh at hk
 split at hk
 ·exact⟨_,rfl,hk⟩
 ·rename_i b o x c
  simp only[aY]
  cases hb:Nat.beq (Nat.mul n size) 0 with
  |true=>
   rw[hb]at hk
   rw[if_pos (show n*size=0 from Nat.eq_of_beq_eq_true hb)]
   exact⟨_,rfl,hk⟩
  |false=>
   rw[hb]at hk
   rw[if_neg (fun e=>by rw[lF]at hb;exact absurd e (of_decide_eq_false hb))]
   obtain⟨cs,ro,hg,hk⟩:=iJ hk
   obtain⟨h1,hk⟩:=dJ hk
   rw[nQ,decide_eq_true_eq]at h1
   have h1:o+n*size≤cs.length:=h1
   rw[qZ,um]at hk
   simp only[aa.aT,hg]
   rw[if_pos h1]
   rw[if_pos (by rw[List.length_drop];show n*size≤_;omega)]at hk
   exact⟨_,rfl,hk⟩
 ·cases hk
theorem Ae {size bytes n:Nat}{news:List Value}{s:Value}{h:HT}{K:Value→HT→Bool}(hk:Ke size bytes n news s h K=true): ∃v h',bQ h.toI size bytes s n news=some (v,h'.toI)∧K v h'=true:=by
 unfold Ke at hk
 split at hk
 case h_2=>cases hk
 rename_i a len cap
 obtain⟨c1,hk⟩:=dJ hk
 obtain⟨c2,hk⟩:=dJ hk
 obtain⟨c3,hk⟩:=dJ hk
 obtain⟨c4,hk⟩:=dJ hk
 obtain⟨c5,hk⟩:=dJ hk
 have c1:(len+n)*bytes≤140737488355328:=iW c1
 have c2:len+n≤140737488355328:=iW c2
 have c3:=ji c3
 have c4:=ji c4
 have c5:mr news=n*size:=Nat.eq_of_beq_eq_true c5
 rw[fE]at c5
 unfold bQ
 simp only
 rw[if_pos ⟨c1,c2,c3,c4,c5⟩]
 cases hn:Nat.beq n 0 with
 |true=>
  rw[hn]at hk
  obtain⟨h1,hk⟩:=dJ hk
  rw[if_pos (Nat.eq_of_beq_eq_true hn),if_pos (iW h1)]
  exact⟨_,h,rfl,hk⟩
 |false=>
  rw[hn]at hk
  rw[if_neg (fun e=>by rw[lF]at hn;exact absurd e (of_decide_eq_false hn))]
  simp only[cond_false,bR]at hk
  cases a with
  |none=>
   simp only at hk
   obtain⟨h1,hk⟩:=dJ hk
   obtain⟨h2,hk⟩:=dJ hk
   obtain⟨h',k1,k2⟩:=jT hk
   have h1:=Nat.eq_of_beq_eq_true h1
   have h2:=Nat.eq_of_beq_eq_true h2
   simp only
   rw[if_pos ⟨h1,h2⟩]
   refine⟨_,h',by rw[k2],?_⟩
   subst h1
   simpa using k1
  |some ad=>
   obtain⟨b,o,sp⟩:=ad
   cases sp with
   |some x=>cases hk
   |none=>
   simp only at hk ⊢
   cases hu:Nat.blt cap dQ with
   |true=>
    rw[hu]at hk
    have hu:=ji hu
    simp only[cond_true]at hk
    cases hl:Nat.ble (Nat.add len n) cap with
    |true=>
     rw[hl]at hk
     have hl:len+n≤cap:=iW hl
     obtain⟨h',k1,k2⟩:=Hz hk
     rw[if_pos ⟨hu,hl⟩]
     rw[show o+len*size=Nat.add o (Nat.mul len size)from rfl,k1]
     exact⟨_,h',rfl,k2⟩
    |false=>
     rw[hl]at hk
     have hl: ¬ len+n≤cap:=fun h=>by
      rw[Kg]at hl;exact absurd h (of_decide_eq_false hl)
     rw[if_neg (fun h=>hl h.2)]
     simp only[cond_false]at hk
     cases hz:Nat.beq (Nat.mul len size) 0 with
     |true=>
      rw[hz]at hk
      have hz:len*size=0:=Nat.eq_of_beq_eq_true hz
      obtain⟨h',k1,k2⟩:=jT hk
      simp only[aY]
      rw[if_pos hz]
      simp only
      rw[if_pos hu]
      exact⟨_,h',by rw[k2];rfl,k1⟩
     |false=>
      rw[hz]at hk
      have hz: ¬ len*size=0:=fun h=>by rw[lF]at hz;exact absurd h (of_decide_eq_false hz)
      obtain⟨cs,ro,hg,hk⟩:=iJ hk
      obtain⟨h1,hk⟩:=dJ hk
      rw[nQ,decide_eq_true_eq]at h1
      have h1:o+len*size≤cs.length:=h1
      rw[qZ,um,if_pos (by rw[List.length_drop];show len*size≤_;omega),rV]at hk
      obtain⟨h',k1,k2⟩:=jT hk
      simp only[aY]
      rw[if_neg hz]
      simp only[aa.aT,hg]
      rw[if_pos h1]
      simp only
      rw[if_pos hu]
      exact⟨_,h',by rw[k2];rfl,k1⟩
   |false=>
    rw[hu]at hk
    have hu: ¬ cap<dQ:=fun h=>by rw[blt_eq]at hu;exact absurd h (of_decide_eq_false hu)
    rw[if_neg (fun h=>hu h.1)]
    simp only[cond_false]at hk
    obtain⟨h1,hk⟩:=dJ hk
    have h1:=Nat.eq_of_beq_eq_true h1
    obtain⟨cs,ro,hg,hk⟩:=iJ hk
    cases ro with
    |true=>cases hk
    |false=>
     simp only[cond_false]at hk
     obtain⟨h2,hk⟩:=dJ hk
     obtain⟨h3,hk⟩:=dJ hk
     rw[yL]at h2
     rw[nQ,decide_eq_true_eq]at h3
     have h3:o+len*size≤cs.length:=h3
     have hf:aY h.toI size len (.slice (some ⟨b,o,none⟩) len cap)=some (if len*size=0 then []else (cs.drop o).take (len*size)):=by
      simp only[aY]
      by_cases hz:len*size=0
      ·rw[if_pos hz,if_pos hz]
      ·rw[if_neg hz,if_neg hz]
       simp only[aa.aT,hg]
       rw[if_pos h3]
     have hold:(if len*size=0 then []else (cs.drop o).take (len*size))=(cs.drop o).take (len*size):=by
      by_cases hz:len*size=0
      ·rw[if_pos hz,hz];simp
      ·rw[if_neg hz]
     rw[hf]
     simp only
     rw[if_neg hu,if_pos h1,hg]
     simp only
     rw[if_pos h2]
     cases hf:RB cs (Nat.add o (Nat.mul (Nat.add len n) size))with
     |true=>
      rw[hf]at hk
      rw[nQ,decide_eq_true_eq]at hf
      have hf:o+(len+n)*size≤cs.length:=hf
      have hd:(len+n)*size=len*size+n*size:=Nat.add_mul ..
      simp only[cond_true,D5]at hk
      rw[vo _ _ _ (by show o+len*size+_≤_;omega)]at hk
      obtain⟨h',k1,k2⟩:=vF hk
      rw[if_pos hf]
      exact⟨_,h',by rw[k2];rfl,k1⟩
     |false=>
      rw[hf]at hk
      rw[nQ]at hf
      have hf: ¬ o+(len+n)*size≤cs.length:=of_decide_eq_false hf
      rw[if_neg hf,if_pos (by omega)]
      simp only[cond_false]at hk
      rw[qZ,um,if_pos (by rw[List.length_drop];show len*size≤_;omega),rV]at hk
      obtain⟨h1',k1,k2⟩:=vF hk
      obtain⟨h',k3,k4⟩:=jT k1
      refine⟨_,h',by rw[k4,k2,hold];rfl,?_⟩
      rw[k2]at k3
      exact k3
theorem Ut (s b:Nat)(x y:Operand):iV P (.append s b x y) (vD P (.append s b x y)):=qar rfl fun call e h K hk=>by
 have hk:=aO (aO hk)
 split at hk
 case h_2=>cases hk
 rename_i a n c hv
 obtain⟨l,h1,hk⟩:=Qc hk
 obtain⟨v,h',h2,h3⟩:=Ae hk
 simp only[fQ,hv,iN,h1,Option.bind_some]
 exact⟨v,_,h',h2,h3,rfl⟩
theorem Ns (x y:Operand):iV P (.eG x y) (vD P (.eG x y)):=qar rfl fun call e h K hk=>by
 obtain⟨s,hv,hk⟩:=vG (aO (aO hk))
 rw[bR,Ow,fE]at hk
 obtain⟨v,h',h2,h3⟩:=Ae hk
 simp only[fQ,hv]
 exact⟨v,_,h',h2,h3,rfl⟩
end
end
section
section
variable {P:Program}
theorem Eb {size len cap l u:Nat}{a:Option Addr}{m:Option Nat}{h:HT}{K:Value→HT→Bool}(hk:P8 size a len cap l u m h K=true): ∃v,bK h.toI size a len cap l u m=some v∧K v h=true:=by
 unfold P8 at hk
 unfold bK
 cases hu:Nat.blt cap dQ with
 |true=>
  rw[hu]at hk
  rw[if_pos (ji hu)]
  simp only[cond_true,bR]at hk
  obtain⟨h1,hk⟩:=dJ hk
  obtain⟨h2,hk⟩:=dJ hk
  rw[if_pos ⟨iW h1,iW h2⟩]
  refine⟨_,rfl,?_⟩
  cases hq:Nat.beq (m.getD cap) l with
  |true=>rw[hq]at hk;rw[if_pos (Nat.eq_of_beq_eq_true hq)];exact hk
  |false=>
   rw[hq]at hk
   rw[if_neg (fun e=>by rw[lF]at hq;exact absurd e (of_decide_eq_false hq))]
   cases a with
   |none=>exact hk
   |some ad=>
    obtain⟨b,o,s⟩:=ad
    simp only[cond_false]at hk
    cases hz:Nat.beq (Nat.mul l size) 0 with
    |true=>
     rw[hz]at hk
     have hz:l*size=0:=Nat.eq_of_beq_eq_true hz
     simp only[Option.map_some,Addr.add,hz,if_true]
     exact hk
    |false=>
     rw[hz]at hk
     have hz: ¬ l*size=0:=fun e=>by rw[lF]at hz;exact absurd e (of_decide_eq_false hz)
     simp only[Option.map_some,Addr.add]
     rw[if_neg hz]
     exact hk
 |false=>
  rw[hu]at hk
  rw[if_neg (fun h=>by rw[blt_eq]at hu;exact absurd h (of_decide_eq_false hu))]
  simp only[cond_false]at hk
  cases a with
  |none=>cases hk
  |some ad=>
   obtain⟨b,o,sp⟩:=ad
   cases sp with
   |some x=>cases hk
   |none=>
    simp only[bR]at hk ⊢
    obtain⟨h1,hk⟩:=dJ hk
    obtain⟨h2,hk⟩:=dJ hk
    obtain⟨h3,hk⟩:=dJ hk
    have h3:m.getD u≤len∨tN h.toI b (o+m.getD u*size)=true:=by
     cases hq:Nat.ble (m.getD u) len with
     |true=>exact .inl (iW hq)
     |false=>
      rw[hq]at h3
      obtain⟨cs,ro,hg,k⟩:=iJ h3
      rw[nQ]at k
      refine .inr ?_
      simp only[tN,hg]
      exact k
    rw[if_pos ⟨Nat.eq_of_beq_eq_true h1,ji h2,h3⟩]
    cases m with
    |none=>exact⟨_,rfl,hk⟩
    |some x=>
     simp only at hk ⊢
     obtain⟨h4,hk⟩:=dJ hk
     rw[if_pos (ji h4)]
     refine⟨_,rfl,?_⟩
     cases hq:Nat.beq x l with
     |true=>rw[hq]at hk;rw[if_pos (Nat.eq_of_beq_eq_true hq)];exact hk
     |false=>rw[hq]at hk;rw[if_neg (fun e=>by rw[lF]at hq;exact absurd e (of_decide_eq_false hq))];exact hk
theorem Lv {T:Env}{x:Operand}{k:IntKind}{n:Nat}(h:ev T x = .int k (.ofNat n)):gK T x=some n:=by
 simp only[gK,h];rw[if_pos (by exact Int.natCast_nonneg n)];rfl
theorem qcs {T:Env}{len l u m:Nat}{lo:Option Operand}{hi mx:Operand}(h1:(match lo with|some v=>gK T v|none=>some 0)=some l)(h2:gK T hi=some u)(h3:gK T mx=some m)(h4:l≤u)(h5:u≤m):bH T len lo (some hi) (some mx)=some (l,u,some m):=by
 unfold bH
 cases lo <;> simp_all
theorem RS (s:Nat)(a:Operand)(lo hi mx:Option Operand):iV P (.aC s a lo hi mx) (vD P (.aC s a lo hi mx)):=jf rfl fun call e h K hk=>by
 have hk:=aO hk
 split at hk
 case h_2=>cases hk
 rename_i ad len cap hv
 obtain⟨l,h1,hk⟩:=vH hk
 cases mx with
 |none=>
  simp only at hk
  obtain⟨u,h2,hk⟩:=vH hk
  obtain⟨h3,hk⟩:=dJ hk
  obtain⟨v,h4,h5⟩:=Eb hk
  simp only[bB,hv,Vt h1 h2 (iW h3)]
  exact⟨v,h4,h5⟩
 |some mx=>
  cases hi with
  |none=>cases hk
  |some hi=>
   simp only at hk
   obtain⟨k1,u,h2,hk⟩:=jU (aO hk)
   obtain⟨k2,m,h3,hk⟩:=jU (aO hk)
   obtain⟨h4,hk⟩:=dJ hk
   obtain⟨h5,hk⟩:=dJ hk
   obtain⟨v,h6,h7⟩:=Eb hk
   have hb:=qcs (len:=len) h1 (Lv h2) (Lv h3) (iW h4) (iW h5)
   simp only[bB,hv,hb]
   exact⟨v,h6,h7⟩
theorem RU {m n:Int}{K:Bool→Bool}(h:qaj m n K=true):K (decide (m=n))=true:=by
 unfold qaj at h
 split at h
 ·rename_i m
  split at h
  ·rename_i n
   rw[lF]at h
   have:decide (Int.ofNat m=Int.ofNat n)=decide (m=n):=by by_cases e:m=n <;> simp[e] <;> omega
   rw[this];exact h
  ·rename_i hn
   have:decide (Int.ofNat m=n)=false:=decide_eq_false fun e=>hn m e.symm
   rw[this];exact h
 ·cases hd:decide (m=n) <;> rw[hd]at h <;> exact h
theorem Uu {k:KS}{a b:Value}{K:Bool→Bool}(h:qcj k a b K=true):bS [k] [a]=true∧bS [k] [b]=true∧K (qm a b)=true:=by
 unfold qcj at h
 cases k with
 |b=>
  cases a <;> try (cases h;done)
  cases b <;> try (cases h;done)
  rename_i x y
  refine⟨rfl,rfl,?_⟩
  cases x <;> cases y <;> exact h
 |i k=>
  cases a <;> try (cases h;done)
  cases b <;> try (cases h;done)
  simp only at h
  obtain⟨h1,h2⟩:=dJ h
  obtain⟨h3,h4⟩:=dJ h2
  have h1:=Ul h1
  have h3:=Ul h3
  subst h1;subst h3
  exact⟨by simp[bS],by simp[bS],RU h4⟩
 |s=>
  cases a <;> try (cases h;done)
  cases b <;> try (cases h;done)
  rename_i x y
  refine⟨rfl,rfl,?_⟩
  simp only[P9]at h
  have:decide (x=y)=decide (x.data.toList=y.data.toList):=by
   by_cases e:x=y
   ·subst e;simp
   ·rw[decide_eq_false e,decide_eq_false]
    intro e2
    refine e ?_
    cases x;cases y
    simp only[ByteArray.mk.injEq]
    exact Array.toList_inj.1 e2
  simp only[qm,this];exact h
theorem yO {k:KS}{sh:List KS}{v:Value}{l:List Value}(h1:bS [k] [v]=true)(h2:bS sh l=true):bS (k::sh) (v::l)=true:=by
 cases k <;> cases v <;> simp_all [bS]
theorem A7: ∀(sh:List KS) {a b:List Value} {r:Bool} {K:Bool→Bool},qck sh a b r K=true→bS sh a=true∧bS sh b=true∧K (r&&kF a b)=true
 |[],[],[],r,K,h=>⟨rfl,rfl,by have h:K r=true:=h;simpa[kF]using h⟩
 |[],[],_::_,_,_,h=>by cases h
 |[],_::_,_,_,_,h=>by cases h
 |k::sh,[],_,_,_,h=>by cases h
 |k::sh,_::_,[],_,_,h=>by cases h
 |k::sh,x::a,y::b,r,K,h=>by
  have h:qcj k x y (fun q=>bif q then qck sh a b r K else qck sh a b false K)=true:=h
  obtain⟨h1,h2,h3⟩:=Uu h
  cases hq:qm x y with
  |true=>
   rw[hq]at h3
   obtain⟨h4,h5,h6⟩:=A7 sh h3
   exact⟨yO h1 h4,yO h2 h5,by simp only[kF,hq,Bool.true_and];exact h6⟩
  |false=>
   rw[hq]at h3
   obtain⟨h4,h5,h6⟩:=A7 sh h3
   exact⟨yO h1 h4,yO h2 h5,by simp only[kF,hq,Bool.false_and,Bool.and_false]at h6 ⊢;exact h6⟩
theorem qct (neg:Bool)(sh:List KS)(a b:Operand):iV P (.eqv neg sh a b) (vD P (.eqv neg sh a b)):=jf rfl fun call e h K hk=>by
 have hk:=aO (aO hk)
 simp only[bB]
 split at hk
 ·rename_i x hx
  split at hk
  case h_2=>cases hk
  rename_i y hy
  cases sh with
  |nil=>cases hk
  |cons k sh=>
   simp only at hk
   obtain⟨h1,h2,h3⟩:=A7 _ hk
   rw[uo]at h3
   rw[hx,hy]
   simp only
   rw[if_pos ⟨by simp,h1,h2⟩]
   refine⟨_,rfl,?_⟩
   simp only[Bool.true_and]at h3
   cases neg <;> cases hq:kF x.toList y.toList <;> rw[hq]at h3 <;> exact h3
 ·rename_i x hx
  split at hk
  case h_2=>cases hk
  rename_i y hy
  cases sh with
  |nil=>
   simp only[uo]at hk
   rw[hx,hy]
   simp only[if_true]
   refine⟨_,rfl,?_⟩
   cases neg <;> cases x <;> cases y <;> exact hk
  |cons=>cases hk
 ·cases hk
theorem Lx (seen:List Nat): ∀es:List MapEntry,Vp seen es=es.filter fun e=> !seen.contains e.born
 |[]=>rfl
 |e::es=>by
  show(bif seen.contains e.born then Vp seen es else e::Vp seen es)=_
  rw[Lx seen es]
  cases hc:seen.contains e.born <;> simp[List.filter_cons,hc]at * <;> simp_all
theorem RV {h:HT}{K:Value→HT→Bool}{x:Value}(hk:qak h K x=true){K':Value→aa→Prop}(hK: ∀v h',K v h'=true→K' v h'.toI):kG h.toI K' x:=by
 unfold qak at hk
 split at hk
 case h_2=>cases hk
 rename_i r
 obtain⟨o,hg,hk⟩:=Ls hk
 split at hk
 ·unfold kG
  simp only[hg]
  exact hK _ _ hk
 ·rename_i m since seen last
  obtain⟨o2,hm,hk⟩:=Ls hk
  split at hk
  case h_2=>cases hk
  rename_i es clock
  obtain⟨hc,hk⟩:=dJ hk
  have hc':seen=[]∨es=[]∨∃e ∈ es,e.born<last:=by
   simp only[Bool.or_eq_true,List.isEmpty_iff,List.any_eq_true]at hc
   rcases hc with hc|hc|⟨e,h1,h2⟩
   ·exact .inl hc
   ·exact .inr (.inl hc)
   ·exact .inr (.inr ⟨e,h1,ji h2⟩)
  split at hk
  ·rename_i hl
   rw[Lx,List.filter_eq_nil_iff]at hl
   unfold kG
   simp only[hg,hm]
   refine⟨hc',fun _=>hK _ _ hk,fun e he hn=> ?_⟩
   have:=hl e he
   simp at this
   exact absurd this hn
  ·rename_i e hl
   rw[Lx]at hl
   cases hb:Nat.ble since e.born with
   |true=>rw[hb]at hk;cases hk
   |false=>
    rw[hb]at hk
    simp only[cond_false,rV]at hk
    obtain⟨h',k1,k2⟩:=vF hk
    have he:e ∈ es.filter fun e=> !seen.contains e.born:=by rw[hl];simp
    rw[List.mem_filter]at he
    have hns:e.born ∉ seen:=by simpa using he.2
    unfold kG
    simp only[hg,hm]
    refine⟨hc',fun hall=> ?_,fun e' he' hn'=> ?_⟩
    ·have:=hall e he.1 hns
     rw[Kg]at hb
     exact absurd this (of_decide_eq_false hb)
    ·have:e' ∈ es.filter fun e=> !seen.contains e.born:=List.mem_filter.2 ⟨he',by simpa using hn'⟩
     rw[hl]at this
     simp only[List.mem_singleton]at this
     subst this
     rw[←k2]
     exact hK _ _ k1
  ·refine Hw (h:=h) (K:=K) hK ?_
   unfold Vo
   simp only[show h.t.get r=_ from hg,show h.t.get m=_ from hm]
   exact hk
 ·cases hk
theorem RX (a:Operand):iV P (.lC a) (vD P (.lC a)):=by
 intro C call hc e h K hk K' hK
 exact RV (aO hk) hK
theorem qav (f:FuncId)(l:List Operand):iV P (.call f l) (vD P (.call f l)):=by
 intro C call hc e h K hk K' hK
 exact hc _ _ _ _ (pE l hk) _ hK
theorem RY (f:Operand)(l:List Operand):iV P (.aZ f l) (vD P (.aZ f l)):=by
 intro C call hc e h K hk K' hK
 have hk:=pE l (aO hk)
 simp only[Dq,bO.kind,jM]
 split at hk
 ·rename_i g x y hv
  rw[hv]
  simp only[rV]at hk
  have:=hc _ _ _ _ hk _ hK
  simpa using this
 ·cases hk
theorem qee (o:bO):iV P o ⟨opK o P⟩:=fun C call hc e h K hk K' hK=>by
 have hk:opK o P call e h K=true:=hk
 exact WC hc hk hK
theorem qef (o:bO):iV P o (vD P o):=by
 cases o with
 |move x=>exact qas x
 |pick c a b=>exact qat c a b
 |bin op a b=>exact qco op a b
 |conv k a=>exact qau k a
 |nilCheck a=>exact Qa a
 |aJ k n a=>exact WI k n a
 |fieldAddr off a=>exact Nr off a
 |GZ off a=>exact WJ off a
 |bY s a i=>exact WK s a i
 |dY n s a i=>exact Uo n s a i
 |bM a=>exact WL a
 |extract a i=>exact RO a i
 |aj a=>exact WM a
 |aL n a=>exact WN n a
 |cZ a=>exact Qb a
 |ay a=>exact Uq a
 |dL a i=>exact Ur a i
 |bX a lo hi=>exact WO a lo hi
 |un op a=>cases op <;> first|exact qcp a|exact qed _ a (by simp)
 |build z ps=>exact WQ z ps
 |buildSlice n z ps=>exact Lu n z ps
 |aV f a b=>exact Us f a b
 |bq t a=>exact RP t a
 |mkSlice b z l c=>exact RQ b z l c
 |rQ m a b=>exact qcq m a b
 |aC s a lo hi mx=>exact RS s a lo hi mx
 |eqv n sh a b=>exact qct n sh a b
 |lC a=>exact RX a
 |alloc cells=>exact WR cells
 |box a=>exact qcr a
 |store n a x=>exact WS n a x
 |append s b x y=>exact Ut s b x y
 |eG x y=>exact Ns x y
 |call f l=>exact qav f l
 |aZ f l=>exact RY f l
 |_=>exact qee _
end
end
end Go.Proofs.YtofpmkhcbijilaaGreatDoorI
