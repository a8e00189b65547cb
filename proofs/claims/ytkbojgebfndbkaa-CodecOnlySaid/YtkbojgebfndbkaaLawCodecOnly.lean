import Derived.Test.YtkbojgebfndbkaaRows
import Derived.Test.YtkbojgebfndbkaaSeat03
import Derived.Test.YtkbojgebfndbkaaCodecL1
import Derived.WalkKit
import Derived.ProofKit
import Derived.OpenShut
import Derived.ShutString
import Derived.ChangeOld
import Derived.Below
import Derived.SizedLaws
namespace Go.Proofs.Ytkbojgebfndbkaa.codecOnly
set_option linter.unusedSimpArgs false
set_option linter.unusedVariables false
open Go.ChangeShapes Go.WideShapes Go.ChangeAt Go.RowKit
open Go.Proofs.YtkbojgebfndbkaaI
theorem keyCodecOnly (H : IHeap) (vs : List Value) (dss : List (List D)) (wf : ∀ b, H.next ≤ b → H.get b = none) (h : ArgsOk H [(false, [.s])] vs dss) : seatC.C 3 vs H (fun r _ => r = .bool true) := by
  obtain ⟨v0, _, d0, _, rfl, rfl, a0, o0, h⟩ := h.cons_inv
  obtain rfl := h.nil_inv
  obtain ⟨x, rfl, _⟩ := arg_s a0 o0
  rw [strV_data]
  exact CodecOnly_law seatC seatHasCodec seatHasLaw03 seatAw
theorem own : ownKnob Try.prog.godebug = none := by kernel_rfl
theorem laidOut : laidOutB Try.prog = true := by kernel_rfl
set_option maxRecDepth 100000 in
theorem lifted (os : Os) (started : os.Started) (H : Type) (enc : TypeId × Value → H) :
    ReturnsInHanded {} Try.checked os 3 .any (Rows.codecOnlySpec.pre6 enc Try.prog Try.f3 Rows.codecOnlyRow.domain false) (Rows.codecOnlySpec.post enc Try.prog Try.f3 false true false false) :=
  law_lifted (C := Try.checked) (f := 3) (fn := Try.f3) (s := Rows.codecOnlySpec) own (by kernel_rfl) Try.func3 laidOut (pars := _) (by kernel_rfl) (by kernel_rfl) (by kernel_rfl) Try.underlying4 rfl
    (fun Hd ds hl => by
      have hl' : ds.length = 1 := hl
      match ds, hl' with
      | [d0], _ => rfl)
    seatSim (fun H vs dss _ wf h => keyCodecOnly H vs dss wf h) started
    (ChangeSpec.witness6 (enc := enc) (C := Try.checked) false ⟨#[], #[.string ⟨#[]⟩], []⟩ 8 (by kernel_rfl) (by kernel_rfl) (by kernel_rfl) (by kernel_rfl))
theorem over : Rows.codecOnlyRow.holds Try.pinned (OpenSpec.ofChange Rows.codecOnlySpec) :=
  OpenClaim.holds_of_wide 3 Try.f3 rfl rfl rfl rfl rfl rfl rfl ⟨rfl, rfl, rfl, rfl, rfl⟩ rfl rfl rfl rfl rfl (by kernel_rfl) Try.func3 (by kernel_rfl)
    (of_decide_eq_true (by kernel_rfl)) (by unfold Func.isWrapper; first | (rw [if_pos (by decide +kernel)]; kernel_rfl) | (rw [if_neg (by decide +kernel)]; exact ⟨rfl, rfl⟩))
    (fun os started H enc _ => lifted os started H enc)
theorem proved : Rows.CodecOnlySaid := over
end Go.Proofs.Ytkbojgebfndbkaa.codecOnly
namespace Go.Proofs.Ytkbojgebfndbkaa
theorem codecOnly_holds : Rows.CodecOnlySaid := codecOnly.proved
end Go.Proofs.Ytkbojgebfndbkaa
