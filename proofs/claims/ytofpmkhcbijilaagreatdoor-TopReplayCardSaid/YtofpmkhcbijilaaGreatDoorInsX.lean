/- What is known besides: more than one thing. -/
import Derived.Test.YtofpmkhcbijilaaGreatDoorPlainX
namespace Go.Proofs.YtofpmkhcbijilaaGreatDoorI
open Go
set_option linter.unusedSimpArgs false
set_option linter.unusedVariables false
def orX (X Y:bu):bu:=fun f a H K=>X f a H K∨Y f a H K
theorem pG {X Y:bu}(h:wW X X)(k:wW Y Y):wW (orX X Y) (orX X Y):=fun f a H K K' hK hh=>hh.elim (fun x=>.inl (h f a H K K' hK x)) fun x=>.inr (k f a H K K' hK x)
theorem rW {P:Program}{X Y:bu}(h:jh P X)(k:jh P Y):jh P (orX X Y):=fun f a H K hh=>hh.elim (fun x=>h f a H K x) fun x=>k f a H K x
theorem LF (g:FuncId):wW (Ry g) (Ry g):=by
 rintro f a H K K' hK ⟨h0,b1,o1,n1,c1,b2,o2,n2,c2,cs1,cs2,h1,h2,h3,h4,h5,h6,h7,h8,h9⟩
 exact⟨h0,b1,o1,n1,c1,b2,o2,n2,c2,cs1,cs2,h1,h2,h3,h4,h5,h6,h7,h8,hK _ _ h9⟩
theorem R5 {H:aa}{size:Nat}{s:Value}{K K':Value→aa→Prop}(hK: ∀v H',K v H'→K' v H')(h:K8 H size s K):K8 H size s K':=by
 rcases h with⟨a,b⟩|⟨b,o,len,cs,h1,h2,h3⟩
 ·exact .inl ⟨a,hK _ _ b⟩
 ·exact .inr ⟨b,o,len,cs,h1,h2,fun c junk x y z=>hK _ _ (h3 c junk x y z)⟩
theorem WX {H:aa}{size:Nat}{s:Value}{K K':Value→aa→Prop}(hK: ∀v H',K v H'→K' v H')(h:Hide H size s K):Hide H size s K':=by
 rcases h with a|⟨b,o,len,c,cs,h1,h2,h3,h4,h5,h6⟩
 ·exact .inl (hK _ _ a)
 ·exact .inr ⟨b,o,len,c,cs,h1,h2,h3,h4,h5,hK _ _ h6⟩
theorem R6 {CC:bu}(hC:wW CC CC)(g:FuncId)(size:Nat):wW (Pz CC g size) (Pz CC g size):=by
 rintro f a H K K' hK ⟨h0,s,r,h1,h2⟩
 exact⟨h0,s,r,h1,R5 (fun t H1 h=>hC _ _ _ _ _ (fun v H2 h=>WX hK h) h) h2⟩
end Go.Proofs.YtofpmkhcbijilaaGreatDoorI
