/- What is known besides: more than one thing. -/
import Derived.Test.YtdfjicnjcibdaaaIdealZ
namespace Go.Proofs.YtdfjicnjcibdaaaI
set_option linter.unusedSimpArgs false
set_option linter.unusedVariables false
open Go

def orX (X Y : CallT) : CallT := fun f a H K => X f a H K ∨ Y f a H K
theorem orX_mono {X Y : CallT} (h : LeC X X) (k : LeC Y Y) : LeC (orX X Y) (orX X Y) := fun f a H K K' hK hh => hh.elim (fun x => .inl (h f a H K K' hK x)) fun x => .inr (k f a H K K' hK x)
theorem orX_sim {P : Program} {X Y : CallT} (h : CSim P X) (k : CSim P Y) : CSim P (orX X Y) := fun f a H K hh => hh.elim (fun x => h f a H K x) fun x => k f a H K x
theorem overX_mono (g : FuncId) : LeC (overX g) (overX g) := by
  rintro f a H K K' hK ⟨h0, b1, o1, n1, c1, b2, o2, n2, c2, cs1, cs2, h1, h2, h3, h4, h5, h6, h7, h8, h9⟩
  exact ⟨h0, b1, o1, n1, c1, b2, o2, n2, c2, cs1, cs2, h1, h2, h3, h4, h5, h6, h7, h8, hK _ _ h9⟩
theorem Reveal_mono {H : IHeap} {size : Nat} {s : Value} {K K' : Value → IHeap → Prop} (hK : ∀ v H', K v H' → K' v H') (h : Reveal H size s K) : Reveal H size s K' := by
  rcases h with ⟨a, b⟩ | ⟨b, o, len, cs, h1, h2, h3⟩
  · exact .inl ⟨a, hK _ _ b⟩
  · exact .inr ⟨b, o, len, cs, h1, h2, fun c junk x y z => hK _ _ (h3 c junk x y z)⟩
theorem Hide_mono {H : IHeap} {size : Nat} {s : Value} {K K' : Value → IHeap → Prop} (hK : ∀ v H', K v H' → K' v H') (h : Hide H size s K) : Hide H size s K' := by
  rcases h with a | ⟨b, o, len, c, cs, h1, h2, h3, h4, h5, h6⟩
  · exact .inl (hK _ _ a)
  · exact .inr ⟨b, o, len, c, cs, h1, h2, h3, h4, h5, hK _ _ h6⟩
theorem wholeX_mono {CC : CallT} (hC : LeC CC CC) (g : FuncId) (size : Nat) : LeC (wholeX CC g size) (wholeX CC g size) := by
  rintro f a H K K' hK ⟨h0, s, r, h1, h2⟩
  exact ⟨h0, s, r, h1, Reveal_mono (fun t H1 h => hC _ _ _ _ _ (fun v H2 h => Hide_mono hK h) h) h2⟩

end Go.Proofs.YtdfjicnjcibdaaaI
