/-  -/
import Derived.Test.YtndndcdblfejnaaGreatRRows
import Derived.Test.YtndndcdblfejnaaGreatRSeat28
import Derived.Test.YtndndcdblfejnaaGreatRDecode28B
import Derived.Test.YtndndcdblfejnaaGreatRMgZ
import Derived.WalkKit
import Derived.ProofKit
import Derived.OpenShut
import Derived.ShutString
import Derived.ChangeOld
import Derived.Below
import Derived.SizedLaws
namespace Go.Proofs.YtndndcdblfejnaaGreatR.managerAlike
set_option linter.unusedSimpArgs false
set_option linter.unusedVariables false
open Go.ChangeShapes Go.WideShapes Go.ChangeAt Go.RowKit
open Go.Proofs.YtndndcdblfejnaaGreatRI
theorem keyManagerAlike (H : IHeap) (vs : List Value) (dss : List (List D)) (wf : ∀ b, H.next ≤ b → H.get b = none) (h : ArgsOk H [(true, [.sl 8 1 [.i .i64], .sl 8 1 [.i .i64]]), (false, [.sl 80 9 [.i .i64, .i .i64, .i .i64, .i .i64, .i .i64, .i .i64, .i .i64, .i .i64, .s]]), (false, [.i .i64])] vs dss) : seatC.C 4 vs H (fun r _ => r = .bool true) := by
  obtain ⟨v0, _, d0, _, rfl, rfl, a0, o0, h⟩ := h.cons_inv
  obtain ⟨v1, _, d1, _, rfl, rfl, a1, o1, h⟩ := h.cons_inv
  obtain ⟨v2, _, d2, _, rfl, rfl, a2, o2, h⟩ := h.cons_inv
  obtain rfl := h.nil_inv
  obtain ⟨u1, u2, L, Q, rfl, g1, g2⟩ := arg_Group wf a0 o0
  obtain ⟨l, s1, hx⟩ := arg_DeedsG wf a1 o1
  obtain ⟨n2, rfl, w2⟩ := arg_i a2 o2
  exact alike_ok28 seatC seatMg seatHasRef03 seatHasLaw28 seatHasRef01 seatAw g1 g2 s1 hx fun _ => rfl
theorem own : ownKnob Tryz.prog.godebug = none := by kernel_rfl
theorem laidOut : laidOutB Tryz.prog = true := by kernel_rfl
set_option maxRecDepth 100000 in
theorem lifted (os : Os) (started : os.Started) (H : Type) (enc : TypeId × Value → H) :
    ReturnsInHanded {} Tryz.checked os 4 .any (Rows.managerAlikeSpec.pre6 enc Tryz.prog Tryz.f4 Rows.managerAlikeRow.domain false) (Rows.managerAlikeSpec.post enc Tryz.prog Tryz.f4 false true false false) :=
  law_lifted (C := Tryz.checked) (f := 4) (fn := Tryz.f4) (s := Rows.managerAlikeSpec) own (by kernel_rfl) Tryz.func4 laidOut (by kernel_rfl) (pars := _) (by kernel_rfl) (by kernel_rfl) (by kernel_rfl) Tryz.underlying4 rfl
    (fun Hd ds hl => by
      have hl' : ds.length = 3 := hl
      match ds, hl' with
      | [d0, d1, d2], _ => rfl)
    seatSim (fun H vs dss _ wf h => keyManagerAlike H vs dss wf h) started
    (ChangeSpec.witness6 (enc := enc) (C := Tryz.checked) false ⟨#[], #[.agg #[.slice none 0 0, .slice none 0 0], .slice none 0 0, .int .i64 0], []⟩ 8 (by kernel_rfl) (by kernel_rfl) (by kernel_rfl) (by kernel_rfl))
theorem over : Rows.managerAlikeRow.holds Tryz.pinned (OpenSpec.ofChange Rows.managerAlikeSpec) :=
  OpenClaim.holds_of_wide 4 Tryz.f4 rfl rfl rfl rfl rfl rfl rfl ⟨rfl, rfl, rfl, rfl, rfl⟩ rfl rfl rfl rfl rfl (by kernel_rfl) Tryz.func4 (by kernel_rfl)
    (of_decide_eq_true (by kernel_rfl)) (by unfold Func.isWrapper; first | (rw [if_pos (by decide +kernel)]; kernel_rfl) | (rw [if_neg (by decide +kernel)]; exact ⟨rfl, rfl⟩))
    (fun os started H enc _ => lifted os started H enc)
theorem proved : Rows.ManagerAlikeSaid := over
end Go.Proofs.YtndndcdblfejnaaGreatR.managerAlike
namespace Go.Proofs.YtndndcdblfejnaaGreatR
theorem managerAlike_holds : Rows.ManagerAlikeSaid := managerAlike.proved
end Go.Proofs.YtndndcdblfejnaaGreatR
