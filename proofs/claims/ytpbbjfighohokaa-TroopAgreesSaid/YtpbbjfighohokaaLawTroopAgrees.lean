/-  -/
import Derived.Test.YtpbbjfighohokaaRows
import Derived.Test.YtpbbjfighohokaaSeat22
import Derived.Test.YtpbbjfighohokaaTroT
import Derived.WalkKit
import Derived.ProofKit
import Derived.OpenShut
import Derived.ShutString
import Derived.ChangeOld
import Derived.Below
import Derived.SizedLaws
namespace Go.Proofs.Ytpbbjfighohokaa.troopAgrees
set_option linter.unusedSimpArgs false
set_option linter.unusedVariables false
open Go.ChangeShapes Go.WideShapes Go.ChangeAt Go.RowKit
open Go.Proofs.YtpbbjfighohokaaI
theorem keyTroopAgrees (H : IHeap) (vs : List Value) (dss : List (List D)) (wf : ∀ b, H.next ≤ b → H.get b = none) (h : ArgsOk H [(false, [.i .i64]), (false, [.sl 40 4 [.i .i64, .i .i64, .i .i64, .s]])] vs dss) : seatC.C 4 vs H (fun r _ => r = .bool true) := by
  obtain ⟨v0, _, d0, _, rfl, rfl, a0, o0, h⟩ := h.cons_inv
  obtain ⟨v1, _, d1, _, rfl, rfl, a1, o1, h⟩ := h.cons_inv
  obtain rfl := h.nil_inv
  obtain ⟨n0, rfl, w0⟩ := arg_i a0 o0
  obtain ⟨l, s1⟩ := arg_DeedsT wf a1 o1
  exact agrees_ok22 seatC seatHasTroop seatN seatHasRef22 seatHasLaw22 seatAw s1 fun _ => rfl
theorem own : ownKnob Try.prog.godebug = none := by kernel_rfl
theorem laidOut : laidOutB Try.prog = true := by kernel_rfl
set_option maxRecDepth 100000 in
theorem lifted (os : Os) (started : os.Started) (H : Type) (enc : TypeId × Value → H) :
    ReturnsInHanded {} Try.checked os 4 .any (Rows.troopAgreesSpec.pre6 enc Try.prog Try.f4 Rows.troopAgreesRow.domain false) (Rows.troopAgreesSpec.post enc Try.prog Try.f4 false true false false) :=
  law_lifted (C := Try.checked) (f := 4) (fn := Try.f4) (s := Rows.troopAgreesSpec) own (by kernel_rfl) Try.func4 laidOut (by kernel_rfl) (pars := _) (by kernel_rfl) (by kernel_rfl) (by kernel_rfl) Try.underlying4 rfl
    (fun Hd ds hl => by
      have hl' : ds.length = 2 := hl
      match ds, hl' with
      | [d0, d1], _ => rfl)
    seatSim (fun H vs dss _ wf h => keyTroopAgrees H vs dss wf h) started
    (ChangeSpec.witness6 (enc := enc) (C := Try.checked) false ⟨#[], #[.int .i64 0, .slice none 0 0], []⟩ 8 (by kernel_rfl) (by kernel_rfl) (by kernel_rfl) (by kernel_rfl))
theorem over : Rows.troopAgreesRow.holds Try.pinned (OpenSpec.ofChange Rows.troopAgreesSpec) :=
  OpenClaim.holds_of_wide 4 Try.f4 rfl rfl rfl rfl rfl rfl rfl ⟨rfl, rfl, rfl, rfl, rfl⟩ rfl rfl rfl rfl rfl (by kernel_rfl) Try.func4 (by kernel_rfl)
    (of_decide_eq_true (by kernel_rfl)) (by unfold Func.isWrapper; first | (rw [if_pos (by decide +kernel)]; kernel_rfl) | (rw [if_neg (by decide +kernel)]; exact ⟨rfl, rfl⟩))
    (fun os started H enc _ => lifted os started H enc)
theorem proved : Rows.TroopAgreesSaid := over
end Go.Proofs.Ytpbbjfighohokaa.troopAgrees
namespace Go.Proofs.Ytpbbjfighohokaa
theorem troopAgrees_holds : Rows.TroopAgreesSaid := troopAgrees.proved
end Go.Proofs.Ytpbbjfighohokaa
