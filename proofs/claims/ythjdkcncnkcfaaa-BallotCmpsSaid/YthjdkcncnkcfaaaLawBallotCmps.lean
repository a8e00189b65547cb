import Derived.Test.YthjdkcncnkcfaaaRows
import Derived.Test.YthjdkcncnkcfaaaSeat16
import Derived.WalkKit
import Derived.ProofKit
import Derived.OpenShut
import Derived.ShutString
import Derived.ChangeOld
import Derived.Below
import Derived.SizedLaws
namespace Go.Proofs.Ythjdkcncnkcfaaa.ballotCmps
set_option linter.unusedSimpArgs false
set_option linter.unusedVariables false
open Go.ChangeShapes Go.WideShapes Go.ChangeAt Go.RowKit
open Go.Proofs.YthjdkcncnkcfaaaI
theorem keyCmps (H : IHeap) (vs : List Value) (dss : List (List D)) (h : ArgsOk H [(true, [.i .i64, .i .i64]), (true, [.i .i64, .i .i64]), (false, [.i .i64])] vs dss) : seatC.C 3 vs H (fun r _ => r = .bool true) := by
  obtain ⟨v1, _, d1, _, rfl, rfl, a1, o1, h⟩ := h.cons_inv
  obtain ⟨v2, _, d2, _, rfl, rfl, a2, o2, h⟩ := h.cons_inv
  obtain ⟨v3, _, d3, _, rfl, rfl, a3, o3, h⟩ := h.cons_inv
  obtain rfl := h.nil_inv
  obtain ⟨a, n, rfl, _, _⟩ := arg_B a1 o1
  obtain ⟨b, m, rfl, _, _⟩ := arg_B a2 o2
  obtain ⟨k, rfl, _⟩ := arg_i a3 o3
  exact BallotCmps_law seatC seatHasBallot seatAw
theorem own : ownKnob Try.prog.godebug = none := by kernel_rfl
theorem laidOut : laidOutB Try.prog = true := by kernel_rfl
set_option maxRecDepth 100000 in
theorem lifted (os : Os) (started : os.Started) (H : Type) (enc : TypeId × Value → H) :
    ReturnsInHanded {} Try.checked os 3 .any (Rows.ballotCmpsSpec.pre6 enc Try.prog Try.f3 Rows.ballotCmpsRow.domain false) (Rows.ballotCmpsSpec.post enc Try.prog Try.f3 false true false false) :=
  law_lifted (C := Try.checked) (f := 3) (fn := Try.f3) (s := Rows.ballotCmpsSpec) own (by kernel_rfl) Try.func3 laidOut (pars := _) (by kernel_rfl) (by kernel_rfl) (by kernel_rfl) Try.underlying4 rfl
    (fun Hd ds hl => by
      have hl' : ds.length = 3 := hl
      match ds, hl' with
      | [d0, d1, d2], _ => rfl)
    seatSim (fun H vs dss _ _ h => keyCmps H vs dss h) started
    (ChangeSpec.witness6 (enc := enc) (C := Try.checked) false ⟨#[], #[.agg #[.int .i64 0, .int .i64 0], .agg #[.int .i64 0, .int .i64 0], .int .i64 0], []⟩ 8 (by kernel_rfl) (by kernel_rfl) (by kernel_rfl) (by kernel_rfl))
theorem over : Rows.ballotCmpsRow.holds Try.pinned (OpenSpec.ofChange Rows.ballotCmpsSpec) :=
  OpenClaim.holds_of_wide 3 Try.f3 rfl rfl rfl rfl rfl rfl rfl ⟨rfl, rfl, rfl, rfl, rfl⟩ rfl rfl rfl rfl rfl (by kernel_rfl) Try.func3 (by kernel_rfl)
    (of_decide_eq_true (by kernel_rfl)) (by unfold Func.isWrapper; first | (rw [if_pos (by decide +kernel)]; kernel_rfl) | (rw [if_neg (by decide +kernel)]; exact ⟨rfl, rfl⟩))
    (fun os started H enc _ => lifted os started H enc)
theorem proved : Rows.BallotCmpsSaid := over
end Go.Proofs.Ythjdkcncnkcfaaa.ballotCmps
namespace Go.Proofs.Ythjdkcncnkcfaaa
theorem ballotCmps_holds : Rows.BallotCmpsSaid := ballotCmps.proved
end Go.Proofs.Ythjdkcncnkcfaaa
