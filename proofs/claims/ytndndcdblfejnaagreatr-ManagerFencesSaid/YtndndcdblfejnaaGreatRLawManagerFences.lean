/-  -/
import Derived.Test.YtndndcdblfejnaaGreatRRows
import Derived.Test.YtndndcdblfejnaaGreatRSeat28
import Derived.Test.YtndndcdblfejnaaGreatRDecode28B
import Derived.Test.YtndndcdblfejnaaGreatRMgW
import Derived.WalkKit
import Derived.ProofKit
import Derived.OpenShut
import Derived.ShutString
import Derived.ChangeOld
import Derived.Below
import Derived.SizedLaws
namespace Go.Proofs.YtndndcdblfejnaaGreatR.managerFences
set_option linter.unusedSimpArgs false
set_option linter.unusedVariables false
open Go.ChangeShapes Go.WideShapes Go.ChangeAt Go.RowKit
open Go.Proofs.YtndndcdblfejnaaGreatRI
theorem keyManagerFences (H : IHeap) (vs : List Value) (dss : List (List D)) (wf : ∀ b, H.next ≤ b → H.get b = none) (h : ArgsOk H [(true, [.sl 8 1 [.i .i64], .sl 8 1 [.i .i64]]), (false, [.sl 80 9 [.i .i64, .i .i64, .i .i64, .i .i64, .i .i64, .i .i64, .i .i64, .i .i64, .s]])] vs dss) : seatC.C 5 vs H (fun r _ => r = .bool true) := by
  obtain ⟨v0, _, d0, _, rfl, rfl, a0, o0, h⟩ := h.cons_inv
  obtain ⟨v1, _, d1, _, rfl, rfl, a1, o1, h⟩ := h.cons_inv
  obtain rfl := h.nil_inv
  obtain ⟨u1, u2, L, Q, rfl, g1, g2⟩ := arg_Group wf a0 o0
  obtain ⟨l, s1, hx⟩ := arg_DeedsG wf a1 o1
  exact fences_ok28 seatC seatMg seatHasRef03 seatHasLaw28 seatAw g1 g2 s1 hx fun _ => rfl
theorem own : ownKnob Tryz.prog.godebug = none := by kernel_rfl
theorem laidOut : laidOutB Tryz.prog = true := by kernel_rfl
set_option maxRecDepth 100000 in
theorem lifted (os : Os) (started : os.Started) (H : Type) (enc : TypeId × Value → H) :
    ReturnsInHanded {} Tryz.checked os 5 .any (Rows.managerFencesSpec.pre6 enc Tryz.prog Tryz.f5 Rows.managerFencesRow.domain false) (Rows.managerFencesSpec.post enc Tryz.prog Tryz.f5 false true false false) :=
  law_lifted (C := Tryz.checked) (f := 5) (fn := Tryz.f5) (s := Rows.managerFencesSpec) own (by kernel_rfl) Tryz.func5 laidOut (by kernel_rfl) (pars := _) (by kernel_rfl) (by kernel_rfl) (by kernel_rfl) Tryz.underlying4 rfl
    (fun Hd ds hl => by
      have hl' : ds.length = 2 := hl
      match ds, hl' with
      | [d0, d1], _ => rfl)
    seatSim (fun H vs dss _ wf h => keyManagerFences H vs dss wf h) started
    (ChangeSpec.witness6 (enc := enc) (C := Tryz.checked) false ⟨#[], #[.agg #[.slice none 0 0, .slice none 0 0], .slice none 0 0], []⟩ 8 (by kernel_rfl) (by kernel_rfl) (by kernel_rfl) (by kernel_rfl))
theorem over : Rows.managerFencesRow.holds Tryz.pinned (OpenSpec.ofChange Rows.managerFencesSpec) :=
  OpenClaim.holds_of_wide 5 Tryz.f5 rfl rfl rfl rfl rfl rfl rfl ⟨rfl, rfl, rfl, rfl, rfl⟩ rfl rfl rfl rfl rfl (by kernel_rfl) Tryz.func5 (by kernel_rfl)
    (of_decide_eq_true (by kernel_rfl)) (by unfold Func.isWrapper; first | (rw [if_pos (by decide +kernel)]; kernel_rfl) | (rw [if_neg (by decide +kernel)]; exact ⟨rfl, rfl⟩))
    (fun os started H enc _ => lifted os started H enc)
theorem proved : Rows.ManagerFencesSaid := over
end Go.Proofs.YtndndcdblfejnaaGreatR.managerFences
namespace Go.Proofs.YtndndcdblfejnaaGreatR
theorem managerFences_holds : Rows.ManagerFencesSaid := managerFences.proved
end Go.Proofs.YtndndcdblfejnaaGreatR
