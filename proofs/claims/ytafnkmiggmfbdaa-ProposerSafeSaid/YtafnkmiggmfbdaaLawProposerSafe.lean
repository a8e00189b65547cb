/-  -/
import Derived.Test.YtafnkmiggmfbdaaRows
import Derived.Test.YtafnkmiggmfbdaaSeat19
import Derived.Test.YtafnkmiggmfbdaaDecode19
import Derived.WalkKit
import Derived.ProofKit
import Derived.OpenShut
import Derived.ShutString
import Derived.ChangeOld
import Derived.Below
import Derived.SizedLaws
namespace Go.Proofs.Ytafnkmiggmfbdaa.proposerSafe
set_option linter.unusedSimpArgs false
set_option linter.unusedVariables false
open Go.ChangeShapes Go.WideShapes Go.ChangeAt Go.RowKit
open Go.Proofs.YtafnkmiggmfbdaaI
theorem keyProposerSafe (H : IHeap) (vs : List Value) (dss : List (List D)) (wf : ∀ b, H.next ≤ b → H.get b = none) (h : ArgsOk H [(false, [.i .i64]), (false, [.i .i64]), (false, [.sl 24 1 [.sl 40 4 [.i .i64, .i .i64, .i .i64, .s]]])] vs dss) : seatC.C 3 vs H (fun r _ => r = .bool true) := by
  obtain ⟨v0, _, d0, _, rfl, rfl, a0, o0, h⟩ := h.cons_inv
  obtain ⟨v1, _, d1, _, rfl, rfl, a1, o1, h⟩ := h.cons_inv
  obtain ⟨v2, _, d2, _, rfl, rfl, a2, o2, h⟩ := h.cons_inv
  obtain rfl := h.nil_inv
  obtain ⟨n0, rfl, w0⟩ := arg_i a0 o0
  obtain ⟨n1, rfl, w1⟩ := arg_i a1 o1
  obtain ⟨ls, s2, l2⟩ := arg_LL wf a2 o2
  exact safe_ok19 seatC seatHasBalA seatHasBalB seatHasBalC seatHasBalD seatHasProp seatProT seatHasLaw19 seatAw s2 l2 fun _ => rfl
theorem own : ownKnob Try.prog.godebug = none := by kernel_rfl
theorem laidOut : laidOutB Try.prog = true := by kernel_rfl
set_option maxRecDepth 100000 in
theorem lifted (os : Os) (started : os.Started) (H : Type) (enc : TypeId × Value → H) :
    ReturnsInHanded {} Try.checked os 3 .any (Rows.proposerSafeSpec.pre6 enc Try.prog Try.f3 Rows.proposerSafeRow.domain false) (Rows.proposerSafeSpec.post enc Try.prog Try.f3 false true false false) :=
  law_lifted (C := Try.checked) (f := 3) (fn := Try.f3) (s := Rows.proposerSafeSpec) own (by kernel_rfl) Try.func3 laidOut (by kernel_rfl) (pars := _) (by kernel_rfl) (by kernel_rfl) (by kernel_rfl) Try.underlying4 rfl
    (fun Hd ds hl => by
      have hl' : ds.length = 3 := hl
      match ds, hl' with
      | [d0, d1, d2], _ => rfl)
    seatSim (fun H vs dss _ wf h => keyProposerSafe H vs dss wf h) started
    (ChangeSpec.witness6 (enc := enc) (C := Try.checked) false ⟨#[], #[.int .i64 0, .int .i64 0, .slice none 0 0], []⟩ 8 (by kernel_rfl) (by kernel_rfl) (by kernel_rfl) (by kernel_rfl))
theorem over : Rows.proposerSafeRow.holds Try.pinned (OpenSpec.ofChange Rows.proposerSafeSpec) :=
  OpenClaim.holds_of_wide 3 Try.f3 rfl rfl rfl rfl rfl rfl rfl ⟨rfl, rfl, rfl, rfl, rfl⟩ rfl rfl rfl rfl rfl (by kernel_rfl) Try.func3 (by kernel_rfl)
    (of_decide_eq_true (by kernel_rfl)) (by unfold Func.isWrapper; first | (rw [if_pos (by decide +kernel)]; kernel_rfl) | (rw [if_neg (by decide +kernel)]; exact ⟨rfl, rfl⟩))
    (fun os started H enc _ => lifted os started H enc)
theorem proved : Rows.ProposerSafeSaid := over
end Go.Proofs.Ytafnkmiggmfbdaa.proposerSafe
namespace Go.Proofs.Ytafnkmiggmfbdaa
theorem proposerSafe_holds : Rows.ProposerSafeSaid := proposerSafe.proved
end Go.Proofs.Ytafnkmiggmfbdaa
