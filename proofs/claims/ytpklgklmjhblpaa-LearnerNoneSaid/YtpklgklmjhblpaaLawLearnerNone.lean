import Derived.Test.YtpklgklmjhblpaaRows
import Derived.Test.YtpklgklmjhblpaaSeat20
import Derived.Test.YtpklgklmjhblpaaDecode20
import Derived.Test.YtpklgklmjhblpaaLearnerL
import Derived.WalkKit
import Derived.ProofKit
import Derived.OpenShut
import Derived.ShutString
import Derived.ChangeOld
import Derived.Below
import Derived.SizedLaws
namespace Go.Proofs.Ytpklgklmjhblpaa.learnerNone
set_option linter.unusedSimpArgs false
set_option linter.unusedVariables false
open Go.ChangeShapes Go.WideShapes Go.ChangeAt Go.RowKit
open Go.Proofs.YtpklgklmjhblpaaI
theorem keyLearnerNone (H : IHeap) (vs : List Value) (dss : List (List D)) (wf : ∀ b, H.next ≤ b → H.get b = none) (h : ArgsOk H [(true, [.i .i64, .i .i64, .i .i64, .i .i64, .i .i64, .s])] vs dss) : seatC.C 5 vs H (fun r _ => r = .bool true) := by
  obtain ⟨v0, _, d0, _, rfl, rfl, a0, o0, h⟩ := h.cons_inv
  obtain rfl := h.nil_inv
  obtain ⟨x, rfl⟩ := arg_Deed a0 o0
  exact LearnerNone_law seatC seatHasLearner seatHasLaw20 seatAw
theorem own : ownKnob Try.prog.godebug = none := by kernel_rfl
theorem laidOut : laidOutB Try.prog = true := by kernel_rfl
set_option maxRecDepth 100000 in
theorem lifted (os : Os) (started : os.Started) (H : Type) (enc : TypeId × Value → H) :
    ReturnsInHanded {} Try.checked os 5 .any (Rows.learnerNoneSpec.pre6 enc Try.prog Try.f5 Rows.learnerNoneRow.domain false) (Rows.learnerNoneSpec.post enc Try.prog Try.f5 false true false false) :=
  law_lifted (C := Try.checked) (f := 5) (fn := Try.f5) (s := Rows.learnerNoneSpec) own (by kernel_rfl) Try.func5 laidOut (pars := _) (by kernel_rfl) (by kernel_rfl) (by kernel_rfl) Try.underlying4 rfl
    (fun Hd ds hl => by
      have hl' : ds.length = 1 := hl
      match ds, hl' with
      | [d0], _ => rfl)
    seatSim (fun H vs dss _ wf h => keyLearnerNone H vs dss wf h) started
    (ChangeSpec.witness6 (enc := enc) (C := Try.checked) false ⟨#[], #[.agg #[.int .i64 0, .int .i64 0, .int .i64 0, .int .i64 0, .int .i64 0, .string ⟨#[]⟩]], []⟩ 8 (by kernel_rfl) (by kernel_rfl) (by kernel_rfl) (by kernel_rfl))
theorem over : Rows.learnerNoneRow.holds Try.pinned (OpenSpec.ofChange Rows.learnerNoneSpec) :=
  OpenClaim.holds_of_wide 5 Try.f5 rfl rfl rfl rfl rfl rfl rfl ⟨rfl, rfl, rfl, rfl, rfl⟩ rfl rfl rfl rfl rfl (by kernel_rfl) Try.func5 (by kernel_rfl)
    (of_decide_eq_true (by kernel_rfl)) (by unfold Func.isWrapper; first | (rw [if_pos (by decide +kernel)]; kernel_rfl) | (rw [if_neg (by decide +kernel)]; exact ⟨rfl, rfl⟩))
    (fun os started H enc _ => lifted os started H enc)
theorem proved : Rows.LearnerNoneSaid := over
end Go.Proofs.Ytpklgklmjhblpaa.learnerNone
namespace Go.Proofs.Ytpklgklmjhblpaa
theorem learnerNone_holds : Rows.LearnerNoneSaid := learnerNone.proved
end Go.Proofs.Ytpklgklmjhblpaa
