/- Calls that are deferred and find nothing to recover: the servers' functions by their texts without them. -/
import Derived.Test.YtofpmkhcbijilaaGreatDoorChecked
import Derived.WalkKit
import Derived.Recover
import Derived.Test.YtofpmkhcbijilaaGreatDoorPlainX
import Derived.Test.YtofpmkhcbijilaaGreatDoorAwT
namespace Go.Proofs.YtofpmkhcbijilaaGreatDoorU
open Go
set_option linter.unusedSimpArgs false
set_option linter.unusedVariables false
section
open Go Go.RowKit Go.Proofs.YtofpmkhcbijilaaGreatDoorI
theorem qeg {x:Array Value}(h:x.size=2): ∃p q,x = #[p,q]:=by
 obtain⟨l⟩:=x
 match l,h with
 |[p,q],_=>exact⟨p,q,rfl⟩
theorem qeh {x:Array Value}(h:x.size=1): ∃p,x = #[p]:=by
 obtain⟨l⟩:=x
 match l,h with
 |[p],_=>exact⟨p,rfl⟩
theorem qcy (x:Array Value)(w:World)(hx:x.size=2):CallsD Tryz.prog 252 x .returning w fun e u' w'=>(∃v,e = .returned v)∧u' = .returning∧w'=w:=by
 obtain⟨p,q,rfl⟩:=qeg hx
 refine callsD_of_wpS Tryz.func252 rfl fun c₀ cs hu=> ?_
 apply wpS_seq
 apply wpS_region
 simp[wpOpsS,go_sem,recoverD,hu,Tryz.ntmps252,Exit.thenS]
 apply wpS_seq
 apply wpS_region
 simp[wpOpsS,go_sem,Exit.thenS]
 refine wpS_cond (t:=false) (by simp[Act.eval,Array.replicate]) ?_
 simp only[Bool.false_eq_true,if_false]
 refine wpS_of_wp (wp_skip ?_)
 cases c₀
 simp_all [bodyPostS,results,Tryz.results252]
theorem qcz (x:Array Value)(w:World)(hx:x.size=1):CallsD Tryz.prog 257 x .returning w fun e u' w'=>(∃v,e = .returned v)∧u' = .returning∧w'=w:=by
 obtain⟨p,rfl⟩:=qeh hx
 refine callsD_of_wpS Tryz.func257 rfl fun c₀ cs hu=> ?_
 apply wpS_seq
 apply wpS_region
 simp[wpOpsS,go_sem,recoverD,hu,Tryz.ntmps257,Exit.thenS]
 apply wpS_seq
 apply wpS_region
 simp[wpOpsS,go_sem,Exit.thenS]
 refine wpS_cond (t:=false) (by simp[Act.eval,Array.replicate]) ?_
 simp only[Bool.false_eq_true,if_false]
 refine wpS_of_wp (wp_skip ?_)
 cases c₀
 simp_all [bodyPostS,results,Tryz.results257]
theorem mixed:Tryz.prog.follows .mixedOrders=true:=by kernel_rfl
theorem WT (args:Array Value)(w:World):(callFunc 187 args).run Tryz.prog w = .ok (.enter 187 args) w:=by kernel_rfl
theorem WU (args:Array Value)(w:World):(callFunc 191 args).run Tryz.prog w = .ok (.enter 191 args) w:=by kernel_rfl
theorem qei:vk Tryz.prog 187 A.qcw:=by
 refine Rz (sZ:=1) (d:=8) (io:=.aV 252 [] [.tmp 6,.tmp 7]) (gD:=252) (first:=[]) (cap:=[.tmp 6,.tmp 7]) mixed Tryz.func187 rfl WT (by kernel_rfl) (by kernel_rfl) (by kernel_rfl) rfl rfl rfl (by decide) rfl rfl (by kernel_rfl) ?_ ?_ fun x w hx=>qcy x w hx
 ·intro a w x y h
  simp[execOp,go_sem,Act.eval,h]
 ·intro x y w
  simp[go_sem]
theorem qej:vk Tryz.prog 191 A.qcx:=by
 refine Rz (sZ:=1) (d:=9) (io:=.aV 257 [] [.tmp 8]) (gD:=257) (first:=[]) (cap:=[.tmp 8]) mixed Tryz.func191 rfl WU (by kernel_rfl) (by kernel_rfl) (by kernel_rfl) rfl rfl rfl (by decide) rfl rfl (by kernel_rfl) ?_ ?_ fun x w hx=>qcz x w hx
 ·intro a w x y h
  simp[execOp,go_sem,Act.eval,h]
 ·intro x y w
  simp[go_sem]
end
end Go.Proofs.YtofpmkhcbijilaaGreatDoorU
