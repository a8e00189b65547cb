import Derived.Test.YtkbojgebfndbkaaRows
import Derived.Test.YtkbojgebfndbkaaSeat03
import Derived.Test.YtkbojgebfndbkaaDecodeC
import Derived.Test.YtkbojgebfndbkaaCodecL4
import Derived.WalkKit
import Derived.ProofKit
import Derived.OpenShut
import Derived.ShutString
import Derived.ChangeOld
import Derived.Below
import Derived.SizedLaws
namespace Go.Proofs.Ytkbojgebfndbkaa.codecReads
set_option linter.unusedSimpArgs false
set_option linter.unusedVariables false
open Go.ChangeShapes Go.WideShapes Go.ChangeAt Go.RowKit
open Go.Proofs.YtkbojgebfndbkaaI
theorem keyCodecReads (H : IHeap) (vs : List Value) (dss : List (List D)) (wf : ∀ b, H.next ≤ b → H.get b = none) (h : ArgsOk H [(false, [.s]), (false, [.sl 8 1 [.i .i64]])] vs dss) : seatC.C 5 vs H (fun r _ => r = .bool true) := by
  obtain ⟨v0, _, d0, _, rfl, rfl, a0, o0, h⟩ := h.cons_inv
  obtain ⟨v1, _, d1, _, rfl, rfl, a1, o1, h⟩ := h.cons_inv
  obtain rfl := h.nil_inv
  obtain ⟨x, rfl, _⟩ := arg_s a0 o0
  rw [strV_data]
  obtain ⟨l, s0, _, p0⟩ := arg_Is wf a1 o1
  exact CodecReads_law seatC seatHasCodec seatHasRef03 seatHasRef01 seatHasLaw03 seatAw s0
theorem own : ownKnob Try.prog.godebug = none := by kernel_rfl
theorem laidOut : laidOutB Try.prog = true := by kernel_rfl
set_option maxRecDepth 100000 in
theorem lifted (os : Os) (started : os.Started) (H : Type) (enc : TypeId × Value → H) :
    ReturnsInHanded {} Try.checked os 5 .any (Rows.codecReadsSpec.pre6 enc Try.prog Try.f5 Rows.codecReadsRow.domain false) (Rows.codecReadsSpec.post enc Try.prog Try.f5 false true false false) :=
  law_lifted (C := Try.checked) (f := 5) (fn := Try.f5) (s := Rows.codecReadsSpec) own (by kernel_rfl) Try.func5 laidOut (pars := _) (by kernel_rfl) (by kernel_rfl) (by kernel_rfl) Try.underlying4 rfl
    (fun Hd ds hl => by
      have hl' : ds.length = 2 := hl
      match ds, hl' with
      | [d0, d1], _ => rfl)
    seatSim (fun H vs dss _ wf h => keyCodecReads H vs dss wf h) started
    (ChangeSpec.witness6 (enc := enc) (C := Try.checked) false ⟨#[], #[.string ⟨#[]⟩, .slice none 0 0], []⟩ 8 (by kernel_rfl) (by kernel_rfl) (by kernel_rfl) (by kernel_rfl))
theorem over : Rows.codecReadsRow.holds Try.pinned (OpenSpec.ofChange Rows.codecReadsSpec) :=
  OpenClaim.holds_of_wide 5 Try.f5 rfl rfl rfl rfl rfl rfl rfl ⟨rfl, rfl, rfl, rfl, rfl⟩ rfl rfl rfl rfl rfl (by kernel_rfl) Try.func5 (by kernel_rfl)
    (of_decide_eq_true (by kernel_rfl)) (by unfold Func.isWrapper; first | (rw [if_pos (by decide +kernel)]; kernel_rfl) | (rw [if_neg (by decide +kernel)]; exact ⟨rfl, rfl⟩))
    (fun os started H enc _ => lifted os started H enc)
theorem proved : Rows.CodecReadsSaid := over
end Go.Proofs.Ytkbojgebfndbkaa.codecReads
namespace Go.Proofs.Ytkbojgebfndbkaa
theorem codecReads_holds : Rows.CodecReadsSaid := codecReads.proved
end Go.Proofs.Ytkbojgebfndbkaa
