import Derived.Test.YthjdkcncnkcfaaaRows
import Derived.Test.YthjdkcncnkcfaaaSeat16
import Derived.WalkKit
import Derived.ProofKit
import Derived.OpenShut
import Derived.ShutString
import Derived.ChangeOld
import Derived.Below
import Derived.SizedLaws
namespace Go.Proofs.Ythjdkcncnkcfaaa.ballotQuorums
set_option linter.unusedSimpArgs false
set_option linter.unusedVariables false
open Go.ChangeShapes Go.WideShapes Go.ChangeAt Go.RowKit
open Go.Proofs.YthjdkcncnkcfaaaI
theorem keyBallotQuorums (H : IHeap) (vs : List Value) (dss : List (List D)) (h : ArgsOk H [(false, [.i .i64])] vs dss) : seatC.C 7 vs H (fun r _ => r = .bool true) := by
  obtain ⟨v0, _, d0, _, rfl, rfl, a0, o0, h⟩ := h.cons_inv
  obtain rfl := h.nil_inv
  obtain ⟨k, rfl, _⟩ := arg_i a0 o0
  exact BallotQuorums_law seatC seatHasBallot seatAw
theorem own : ownKnob Try.prog.godebug = none := by kernel_rfl
theorem laidOut : laidOutB Try.prog = true := by kernel_rfl
set_option maxRecDepth 100000 in
theorem lifted (os : Os) (started : os.Started) (H : Type) (enc : TypeId × Value → H) :
    ReturnsInHanded {} Try.checked os 7 .any (Rows.ballotQuorumsSpec.pre6 enc Try.prog Try.f7 Rows.ballotQuorumsRow.domain false) (Rows.ballotQuorumsSpec.post enc Try.prog Try.f7 false true false false) :=
  law_lifted (C := Try.checked) (f := 7) (fn := Try.f7) (s := Rows.ballotQuorumsSpec) own (by kernel_rfl) Try.func7 laidOut (pars := _) (by kernel_rfl) (by kernel_rfl) (by kernel_rfl) Try.underlying4 rfl
    (fun Hd ds hl => by
      have hl' : ds.length = 1 := hl
      match ds, hl' with
      | [d0], _ => rfl)
    seatSim (fun H vs dss _ _ h => keyBallotQuorums H vs dss h) started
    (ChangeSpec.witness6 (enc := enc) (C := Try.checked) false ⟨#[], #[.int .i64 0], []⟩ 8 (by kernel_rfl) (by kernel_rfl) (by kernel_rfl) (by kernel_rfl))
theorem over : Rows.ballotQuorumsRow.holds Try.pinned (OpenSpec.ofChange Rows.ballotQuorumsSpec) :=
  OpenClaim.holds_of_wide 7 Try.f7 rfl rfl rfl rfl rfl rfl rfl ⟨rfl, rfl, rfl, rfl, rfl⟩ rfl rfl rfl rfl rfl (by kernel_rfl) Try.func7 (by kernel_rfl)
    (of_decide_eq_true (by kernel_rfl)) (by unfold Func.isWrapper; first | (rw [if_pos (by decide +kernel)]; kernel_rfl) | (rw [if_neg (by decide +kernel)]; exact ⟨rfl, rfl⟩))
    (fun os started H enc _ => lifted os started H enc)
theorem proved : Rows.BallotQuorumsSaid := over
end Go.Proofs.Ythjdkcncnkcfaaa.ballotQuorums
namespace Go.Proofs.Ythjdkcncnkcfaaa
theorem ballotQuorums_holds : Rows.BallotQuorumsSaid := ballotQuorums.proved
end Go.Proofs.Ythjdkcncnkcfaaa
