/- Calls of functions that the intermediate form does not have: errors.Is of nil; sums.eight, which has a goto. -/
import Derived.Test.YtofpmkhcbijilaaGreatDoorChecked
import Derived.WalkKit
import Derived.LaidEql
import Derived.ScopeJumps
import Derived.Laws.BitsAll
import Derived.Laws.BitsAllLaws
import Derived.Test.YtofpmkhcbijilaaGreatDoorAwK
namespace Go.Proofs.YtofpmkhcbijilaaGreatDoorU
open Go
set_option linter.unusedSimpArgs false
set_option linter.unusedVariables false
section
open Go Go.RowKit Go.Proofs.YtofpmkhcbijilaaGreatDoorI
theorem qeo (v:Value)(w:World):Calls Tryz.prog 351 #[.nilIface,.iface 463 v] w fun e w'=>e = .returned (.bool false)∧w'=w:=by
 have hn:=run_eql_iface_nil_left (P:=Tryz.prog) w 463 v Tryz.underlying428
 go_enter Tryz.func351,Tryz.ntmps351
 go_wp2
 go_ret
 exact⟨rfl,rfl⟩
theorem qaA (args:Array Value)(w:World):(callFunc 351 args).run Tryz.prog w = .ok (.enter 351 args) w:=by kernel_rfl
theorem RZ (args:Array Value)(w:World):(callFunc 316 args).run Tryz.prog w = .ok (.enter 316 args) w:=by kernel_rfl
theorem WW (args:Array Value)(w:World):(callFunc 270 args).run Tryz.prog w = .ok (.enter 270 args) w:=by kernel_rfl
def intOf:Value→Int| .int _ q=>q|_=>0
theorem Vx (n:Int):IntKind.u32.wrap n=n % 4294967296:=by simp[IntKind.wrap,IntKind.bits,IntKind.signed]
theorem qdk (a b:Nat)(ha:a<4294967296)(hb:b<4294967296):bits .xor .u32 (a:Int) (b:Int)=((a ^^^ b:Nat):Int):=by
 have hx:a ^^^ b<2 ^ 32:=Nat.xor_lt_two_pow (by omega) (by omega)
 have h1:(BitVec.ofInt 32 (a:Int)).toNat=a:=by
  rw[BitVec.ofInt_natCast,BitVec.toNat_ofNat];exact Nat.mod_eq_of_lt (by omega)
 have h2:(BitVec.ofInt 32 (b:Int)).toNat=b:=by
  rw[BitVec.ofInt_natCast,BitVec.toNat_ofNat];exact Nat.mod_eq_of_lt (by omega)
 show IntKind.u32.wrap ((BitVec.ofInt 32 (a:Int) ^^^ BitVec.ofInt 32 (b:Int)).toNat:Int)=_
 rw[BitVec.toNat_xor,h1,h2,Vx]
 omega
theorem qaB (a b:Nat)(ha:a<4294967296)(hb:b<4294967296):bits .and .u32 (a:Int) (b:Int)=((a &&& b:Nat):Int):=by
 have hx:a &&& b<2 ^ 32:=Nat.and_lt_two_pow _ (by omega)
 have h1:(BitVec.ofInt 32 (a:Int)).toNat=a:=by
  rw[BitVec.ofInt_natCast,BitVec.toNat_ofNat];exact Nat.mod_eq_of_lt (by omega)
 have h2:(BitVec.ofInt 32 (b:Int)).toNat=b:=by
  rw[BitVec.ofInt_natCast,BitVec.toNat_ofNat];exact Nat.mod_eq_of_lt (by omega)
 show IntKind.u32.wrap ((BitVec.ofInt 32 (a:Int) &&& BitVec.ofInt 32 (b:Int)).toNat:Int)=_
 rw[BitVec.toNat_and,h1,h2,Vx]
 omega
theorem R4 {d:Nat}(hd:d<4294967296):Ec d<4294967296:=by
 unfold Ec
 split
 ·exact Nat.xor_lt_two_pow (n:=32) (by omega) (by omega)
 ·omega
theorem LD {d:Nat}(hd:d<4294967296):bits .xor .u32 ((d:Int)/2) (bits .and .u32 3988292384 (-bits .and .u32 (d:Int) 1 % 4294967296))=((Ec d:Nat):Int):=by
 have e1:bits .and .u32 (d:Int) 1=((d % 2:Nat):Int):=by
  have:=qaB d 1 hd (by omega)
  rw[Nat.and_one_is_mod]at this
  exact this
 rw[e1]
 have e2:(d:Int)/2=((d/2:Nat):Int):=rfl
 rw[e2]
 unfold Ec
 by_cases h:d % 2=1
 ·rw[if_pos h,h]
  have e3: -((1:Nat):Int) % 4294967296=((4294967295:Nat):Int):=by decide
  rw[e3]
  have e4:=qaB 3988292384 4294967295 (by omega) (by omega)
  rw[show(3988292384:Nat) &&& 4294967295=3988292384 by decide]at e4
  have e4:bits .and .u32 3988292384 ((4294967295:Nat):Int)=((3988292384:Nat):Int):=e4
  rw[e4]
  exact qdk (d/2) 3988292384 (by omega) (by omega)
 ·rw[if_neg h,show d % 2=0 by omega]
  have e3: -((0:Nat):Int) % 4294967296=((0:Nat):Int):=by decide
  rw[e3]
  have e4:=qaB 3988292384 0 (by omega) (by omega)
  rw[Nat.and_zero]at e4
  have e4:bits .and .u32 3988292384 ((0:Nat):Int)=((0:Nat):Int):=e4
  rw[e4]
  have:=qdk (d/2) 0 (by omega) (by omega)
  rw[Nat.xor_zero]at this
  exact this
theorem qaC (c:Nat)(hc:c<4294967296)(w:World):Calls Tryz.prog 316 #[.int .u32 c] w fun e w'=>e = .returned (.int .u32 (A8 8 c))∧w'=w:=by
 go_enter Tryz.func316,Tryz.ntmps316
 go_wp2
 refine wp_scope_jumps 0 (fun a' w'=>w'=w∧∃(m d:Nat) (u4 u5 u6 u7 u8 u9 u10 u11 u12 u13 u14:Value),a'={tmps:= #[.int .u32 d,undef,.int .u32 0,.int .i64 m,u4,u5,u6,u7,u8,u9,u10,u11,u12,u13,u14,undef],defers:=[]}∧1≤m∧m≤8∧d<4294967296∧A8 m d=A8 8 c) (fun a' _=>(intOf (a'.tmps.getD 3 undef)).toNat) rfl ?_ ?_
 ·go_wp2
  go_step3
  rename_i K hK
  refine hK _ _ ?_
  go_wp2
  rw[LD hc]
  go_step3
  exact⟨rfl,rfl,7,Ec c,_,_,_,_,_,_,_,_,_,_,_,rfl,by omega,by omega,R4 hc,rfl⟩
 ·rintro a' w' ⟨rfl,m,d,u4,u5,u6,u7,u8,u9,u10,u11,u12,u13,u14,rfl,h1,h2,h3,h4⟩
  go_wp2
  ·rename_i hpos
   rw[LD h3]
   go_step3
   refine⟨rfl,⟨rfl,m-1,Ec d,_,_,_,_,_,_,_,_,_,_,_,by rw[Int.ofNat_sub h1];rfl,by omega,by omega,R4 h3,?_⟩,?_⟩
   ·rw[←h4]
    obtain⟨j,rfl⟩: ∃j,m=j+1:=⟨m-1,by omega⟩
    rfl
   ·simp[intOf]
    omega
  ·rw[LD h3]
   rename_i hneg
   obtain rfl:m=1:=by omega
   simp only[Exit.jump]
   go_ret
   rw[←h4]
   exact⟨rfl,rfl⟩
end
end Go.Proofs.YtofpmkhcbijilaaGreatDoorU
