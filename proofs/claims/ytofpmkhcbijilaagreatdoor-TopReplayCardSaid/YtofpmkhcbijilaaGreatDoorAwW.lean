/- The calls at the statement's head, run by the kernel. -/
import Derived.Test.YtofpmkhcbijilaaGreatDoorAwH
import Derived.Test.YtofpmkhcbijilaaGreatDoorAwU
import Derived.Test.YtofpmkhcbijilaaGreatDoorRepShelf
import Derived.Test.YtofpmkhcbijilaaGreatDoorAwK
import Derived.Test.YtofpmkhcbijilaaGreatDoorInsX
namespace Go.Proofs.YtofpmkhcbijilaaGreatDoorU
open Go
set_option linter.unusedSimpArgs false
set_option linter.unusedVariables false
section
open Go Go.RowKit Go.Proofs.YtofpmkhcbijilaaGreatDoorI
theorem WY:jh Tryz.prog (iU 316 Uw):=by
 refine AO RZ ?_ ?_
 ·rintro args r ⟨c,_,rfl,rfl⟩;rfl
 ·rintro R args args' r ⟨c,hc,rfl,rfl⟩ hA w
  have:=xy (by rfl) hA
  subst this
  refine(qaC c hc w).mono ?_
  rintro e w' ⟨rfl,rfl⟩
  exact⟨rfl,Below.refl _ _⟩
theorem Vy:jh Tryz.prog (iU 270 qcA):=by
 refine AO WW ?_ ?_
 ·rintro args r ⟨t,n,_,_,rfl,rfl⟩;rfl
 ·rintro R args args' r ⟨t,n,h1,h2,rfl,rfl⟩ hA w
  have:=xy (by rfl) hA
  subst this
  exact strings_Repeat ⟨t.toArray⟩ n w h1 h2
theorem qep:jh Tryz.prog (iU 351 (isR 463)):=by
 refine AO qaA ?_ ?_
 ·rintro args r ⟨z,rfl,rfl⟩;rfl
 ·rintro R args args' r ⟨z,rfl,rfl⟩ hA w
  cases hA with
  |cons h1 h2=>
   cases h2 with
   |cons h3 h4=>
    cases h4
    cases h1
    cases h3
    refine(qeo _ w).mono ?_
    rintro e w' ⟨rfl,rfl⟩
    exact⟨rfl,Below.refl _ _⟩
theorem Vz:jh Tryz.prog (iU 339 ZW):=qbY Tryz.func339 (by kernel_rfl) (by kernel_rfl) (by kernel_rfl) (by kernel_rfl)
theorem VA:jh Tryz.prog (iU 361 ZX):=qbZ Tryz.func361 (by kernel_rfl) (by kernel_rfl) (by kernel_rfl) (by kernel_rfl)
def awX:bu:=orX (iU 316 Uw) (orX (iU 270 qcA) (orX (iU 339 ZW) (orX (iU 361 ZX) (iU 351 (isR 463)))))
theorem R7:wW awX awX:=pG (je _ _) (pG (je _ _) (pG (je _ _) (pG (je _ _) (je _ _))))
theorem qcG:jh Tryz.prog awX:=rW WY (rW Vy (rW Vz (rW VA qep)))
noncomputable def awO (f:FuncId):Option KF:=bif Nat.beq f 316 then some Ux else bif Nat.beq f 270 then some qel else bif Nat.beq f 339 then some qem else bif Nat.beq f 361 then some cntF else bif Nat.beq f 351 then some (isF 463)else none
theorem qeq (f:FuncId)(r:KF)(h:awO f=some r):qcv (eH Tryz.prog A.tree.get awX) f r:=by
 unfold awO at h
 cases h1:Nat.beq f 316 with
 |true=>rw[h1]at h;injection h with h;subst h;rw[Nat.eq_of_beq_eq_true h1];exact xH (fun _ _ _ _ k=>.inl k) WV
 |false=>
 cases h2:Nat.beq f 270 with
 |true=>rw[h1,h2]at h;injection h with h;subst h;rw[Nat.eq_of_beq_eq_true h2];exact xH (fun _ _ _ _ k=>.inr (.inl k)) qcC
 |false=>
 cases h3:Nat.beq f 339 with
 |true=>rw[h1,h2,h3]at h;injection h with h;subst h;rw[Nat.eq_of_beq_eq_true h3];exact xH (fun _ _ _ _ k=>.inr (.inr (.inl k))) qcD
 |false=>
 cases h4:Nat.beq f 361 with
 |true=>rw[h1,h2,h3,h4]at h;injection h with h;subst h;rw[Nat.eq_of_beq_eq_true h4];exact xH (fun _ _ _ _ k=>.inr (.inr (.inr (.inl k)))) qcE
 |false=>
 cases h5:Nat.beq f 351 with
 |true=>rw[h1,h2,h3,h4,h5]at h;injection h with h;subst h;rw[Nat.eq_of_beq_eq_true h5];exact xH (fun _ _ _ _ k=>.inr (.inr (.inr (.inr k)))) (qen 463)
 |false=>rw[h1,h2,h3,h4,h5]at h;cases h
theorem qhA:Vv Tryz.prog A.tree.get awO 100000 5 (.bool true)=true:=by kernel_rfl
theorem qhB:jh Tryz.prog (eH Tryz.prog A.tree.get awX):=Wu (fun _ _ h=>A.BT.Qd all h) qcG R7
theorem WZ:jh Tryz.prog (DW 5 (.bool true)):=PD qhB rfl (Nt R7 qeq qhA)
end
end Go.Proofs.YtofpmkhcbijilaaGreatDoorU
