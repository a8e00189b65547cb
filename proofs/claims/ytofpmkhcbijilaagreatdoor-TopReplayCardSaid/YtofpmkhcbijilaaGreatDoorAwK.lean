/- The machine's closures of calls that are known besides. -/
import Derived.Test.YtofpmkhcbijilaaGreatDoorPlainX
import Derived.Test.YtofpmkhcbijilaaGreatDoorMachI
import Derived.Lib.Repeat
namespace Go.Proofs.YtofpmkhcbijilaaGreatDoorI
open Go
set_option linter.unusedSimpArgs false
set_option linter.unusedVariables false
section
def Ec (c:Nat):Nat:=if c % 2=1 then Nat.xor (c/2) 3988292384 else c/2
def A8:Nat→Nat→Nat
 |0,c=>c
 |k+1,c=>A8 k (Ec c)
def Uw (args:List Value)(r:Value):Prop:=∃c:Nat,c<4294967296∧args=[.int .u32 c]∧r = .int .u32 (A8 8 c)
def qcA (args:List Value)(r:Value):Prop:=∃(t:List UInt8) (n:Nat),n≤9223372036854775807∧t.length*n≤140737488355328∧args=[ak t,.int .i64 n]∧r=ak (Lib.repeatL t n)
def isR (ty:TypeId)(args:List Value)(r:Value):Prop:=∃z,args=[.nilIface,.iface ty z]∧r = .bool false
noncomputable section
def qcB (n:Nat):Nat→(Nat→Bool)→Bool:=Nat.rec (motive:=fun _=>Nat→(Nat→Bool)→Bool) (fun c K=>bU c K) (fun _ ih c K=>bif Nat.beq (Nat.mod c 2) 1 then ih (Nat.xor (Nat.div c 2) 3988292384) K else ih (Nat.div c 2) K) n
def qek (s:List UInt8)(n:Nat)(K:List UInt8→Bool):Bool:=Nat.rec (motive:=fun _=>(List UInt8→Bool)→Bool) (fun K=>K []) (fun _ ih K=>ih fun l=>Ij s l K) n K
def ixK (c:Nat)(l:List UInt8):Nat→(Int→Bool)→Bool:=List.rec (motive:=fun _=>Nat→(Int→Bool)→Bool) (fun _ K=>K (-1)) (fun b _ ih i K=>bif Nat.beq b.toNat c then K (.ofNat i)else bU (Nat.succ i) fun i=>ih i K) l
def cnK (c:Nat)(l:List UInt8):Nat→(Nat→Bool)→Bool:=List.rec (motive:=fun _=>Nat→(Nat→Bool)→Bool) (fun i K=>K i) (fun b _ ih i K=>bif Nat.beq b.toNat c then bU (Nat.succ i) fun i=>ih i K else ih i K) l
def Ux:KF:=⟨fun _ args h K=>match args with
 |[.int .u32 (.ofNat c)]=>bif Nat.blt c 4294967296 then qcB 8 c fun n=>K (.int .u32 (.ofNat n)) h else false
 |_=>false⟩
def qel:KF:=⟨fun _ args h K=>match args with
 |[.string s,.int .i64 (.ofNat n)]=>bif Nat.ble n 9223372036854775807 then bif Nat.ble (Nat.mul (mr s.data.toList) n) 140737488355328 then qek s.data.toList n fun l=>K (.string ⟨⟨l⟩⟩) h else false else false
 |_=>false⟩
def qem:KF:=⟨fun _ args h K=>match args with
 |[.string s,.int .u8 (.ofNat c)]=>bif Nat.blt c 256 then ixK c s.data.toList 0 fun n=>K (.int .i64 n) h else false
 |_=>false⟩
def cntF:KF:=⟨fun _ args h K=>match args with
 |[.string s,.int .u8 (.ofNat c)]=>bif Nat.blt c 256 then cnK c s.data.toList 0 fun n=>K (.int .i64 (.ofNat n)) h else false
 |_=>false⟩
def isF (ty:TypeId):KF:=⟨fun _ args h K=>match args with
 |[.nilIface,.iface t _]=>bif Nat.beq t ty then K (.bool false) h else false
 |_=>false⟩
end
theorem Qe: ∀(n c:Nat) (K:Nat→Bool),qcB n c K=K (A8 n c)
 |0,c,K=>bR c K
 |n+1,c,K=>by
  show(bif Nat.beq (Nat.mod c 2) 1 then qcB n (Nat.xor (Nat.div c 2) 3988292384) K else qcB n (Nat.div c 2) K)=K (A8 n (Ec c))
  rw[Qe n,Qe n,lF]
  unfold Ec
  by_cases h:c % 2=1
  ·have h':Nat.mod c 2=1:=h
   rw[if_pos h];simp only[h',decide_true,cond_true];rfl
  ·have h': ¬ Nat.mod c 2=1:=h
   rw[if_neg h];simp only[h',decide_false,cond_false];rfl
theorem Vw (s:List UInt8): ∀(n:Nat) (K:List UInt8→Bool),qek s n K=K (Lib.repeatL s n)
 |0,_=>rfl
 |n+1,K=>by
  show qek s n (fun l=>Ij s l K)=_
  rw[Vw s n,rV];rfl
theorem qaz (b:UInt8): ∀(l:List UInt8) (i:Nat) (K:Int→Bool),ixK b.toNat l i K=K (if Lib.indexByte l b = -1 then -1 else Lib.indexByte l b+i)
 |[],_,_=>rfl
 |x::l,i,K=>by
  show(bif Nat.beq x.toNat b.toNat then K (.ofNat i)else bU (Nat.succ i) fun i=>ixK b.toNat l i K)=_
  rw[bR,qaz b l,lF]
  have hg:=Lib.indexByte_ge l b
  rw[show Lib.indexByte (x::l) b=if x == b then 0 else if Lib.indexByte l b == -1 then -1 else Lib.indexByte l b+1 from rfl]
  generalize Lib.indexByte l b=q at hg
  by_cases h:x=b
  ·subst h;simp
  ·have h1: ¬ x.toNat=b.toNat:=fun e=>h (UInt8.toNat_inj.1 e)
   have h2:(x == b)=false:=by simpa using h
   simp only[h1,decide_false,cond_false,h2,Bool.false_eq_true,if_false]
   by_cases h3:q = -1
   ·simp[h3]
   ·have h4:(q == -1)=false:=by simpa using h3
    simp only[h4,Bool.false_eq_true,if_false]
    rw[if_neg h3,if_neg (by omega)]
    congr 1
    simp;omega
theorem Uy (b:UInt8): ∀(l:List UInt8) (i:Nat) (K:Nat→Bool),cnK b.toNat l i K=K (i+Lib.countByte l b)
 |[],_,_=>rfl
 |x::l,i,K=>by
  show(bif Nat.beq x.toNat b.toNat then bU (Nat.succ i) fun i=>cnK b.toNat l i K else cnK b.toNat l i K)=_
  rw[bR,Uy b l,Uy b l,lF]
  unfold Lib.countByte
  by_cases h:x=b
  ·subst h;simp only[decide_true,cond_true,List.count_cons_self];congr 1;omega
  ·have h1: ¬ x.toNat=b.toNat:=fun e=>h (UInt8.toNat_inj.1 e)
   simp only[h1,decide_false,cond_false]
   rw[List.count_cons_of_ne h]
section
variable {P:Program} {IP:FuncId→Option ah} {X:bu}
theorem xH {g:FuncId}{Rel:List Value→Value→Prop}(hx: ∀f a H K,iU g Rel f a H K→X f a H K){k:KF}(hk: ∀call args h K,k.run call args h K=true→∃r,Rel args r∧K r h=true):qcv (eH P IP X) g k:=by
 intro call _ args h K h1 K' hK
 obtain⟨r,h2,h3⟩:=hk _ _ _ _ h1
 exact eH.ext (hx _ _ _ _ ⟨rfl,r,h2,hK _ _ h3⟩)
theorem WV (call:fG)(args:List Value)(h:HT)(K:Value→HT→Bool)(hk:Ux.run call args h K=true): ∃r,Uw args r∧K r h=true:=by
 unfold Ux KF.run at hk
 simp only at hk
 split at hk
 ·rename_i c
  obtain⟨h1,h2⟩:=dJ hk
  rw[Qe]at h2
  exact⟨_,⟨c,ji h1,rfl,rfl⟩,h2⟩
 ·cases hk
theorem qcC (call:fG)(args:List Value)(h:HT)(K:Value→HT→Bool)(hk:qel.run call args h K=true): ∃r,qcA args r∧K r h=true:=by
 unfold qel KF.run at hk
 simp only at hk
 split at hk
 ·rename_i s n
  obtain⟨h1,h2⟩:=dJ hk
  obtain⟨h3,h4⟩:=dJ h2
  rw[Vw]at h4
  have h3:=iW h3
  rw[fE]at h3
  exact⟨_,⟨s.data.toList,n,iW h1,h3,rfl,rfl⟩,h4⟩
 ·cases hk
theorem byte_of {c:Nat}(h:c<256): ∃b:UInt8,c=b.toNat:=⟨UInt8.ofNat c,by simp;omega⟩
theorem qcD (call:fG)(args:List Value)(h:HT)(K:Value→HT→Bool)(hk:qem.run call args h K=true): ∃r,ZW args r∧K r h=true:=by
 unfold qem KF.run at hk
 simp only at hk
 split at hk
 ·rename_i s c
  obtain⟨h1,h2⟩:=dJ hk
  obtain⟨b,rfl⟩:=byte_of (ji h1)
  rw[qaz]at h2
  refine⟨_,⟨s.data.toList,b,rfl,rfl⟩,?_⟩
  have:(if Lib.indexByte s.data.toList b = -1 then -1 else Lib.indexByte s.data.toList b+((0:Nat):Int))=Lib.indexByte s.data.toList b:=by
   split
   ·rename_i e;exact e.symm
   ·simp
  rw[this]at h2
  exact h2
 ·cases hk
theorem qcE (call:fG)(args:List Value)(h:HT)(K:Value→HT→Bool)(hk:cntF.run call args h K=true): ∃r,ZX args r∧K r h=true:=by
 unfold cntF KF.run at hk
 simp only at hk
 split at hk
 ·rename_i s c
  obtain⟨h1,h2⟩:=dJ hk
  obtain⟨b,rfl⟩:=byte_of (ji h1)
  rw[Uy]at h2
  refine⟨_,⟨s.data.toList,b,rfl,rfl⟩,?_⟩
  rw[Nat.zero_add]at h2
  exact h2
 ·cases hk
theorem qen (ty:TypeId)(call:fG)(args:List Value)(h:HT)(K:Value→HT→Bool)(hk:(isF ty).run call args h K=true): ∃r,isR ty args r∧K r h=true:=by
 unfold isF KF.run at hk
 simp only at hk
 split at hk
 ·rename_i t z
  obtain⟨h1,h2⟩:=dJ hk
  have h1:=Nat.eq_of_beq_eq_true h1
  subst h1
  exact⟨_,⟨z,rfl,rfl⟩,h2⟩
 ·cases hk
end
end
end Go.Proofs.YtofpmkhcbijilaaGreatDoorI
