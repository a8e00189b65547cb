/-  -/
import Derived.Test.YtndndcdblfejnaaGreatRRows
import Derived.Test.YtndndcdblfejnaaGreatRSeat28
import Derived.Test.YtndndcdblfejnaaGreatRDecode28
import Derived.Test.YtndndcdblfejnaaGreatRMgX
import Derived.WalkKit
import Derived.ProofKit
import Derived.OpenShut
import Derived.ShutString
import Derived.ChangeOld
import Derived.Below
import Derived.SizedLaws
namespace Go.Proofs.YtndndcdblfejnaaGreatR.managerNone
set_option linter.unusedSimpArgs false
set_option linter.unusedVariables false
open Go.ChangeShapes Go.WideShapes Go.ChangeAt Go.RowKit
open Go.Proofs.YtndndcdblfejnaaGreatRI
theorem keyManagerNone (H : IHeap) (vs : List Value) (dss : List (List D)) (wf : ∀ b, H.next ≤ b → H.get b = none) (h : ArgsOk H [(false, [.s]), (false, [.i .i64])] vs dss) : seatC.C 6 vs H (fun r _ => r = .bool true) := by
  obtain ⟨v0, _, d0, _, rfl, rfl, a0, o0, h⟩ := h.cons_inv
  obtain ⟨v1, _, d1, _, rfl, rfl, a1, o1, h⟩ := h.cons_inv
  obtain rfl := h.nil_inv
  obtain ⟨t0, rfl, _⟩ := arg_s a0 o0
  obtain ⟨n1, rfl, w1⟩ := arg_i a1 o1
  rw [strV_data]
  exact none_ok28 seatC seatMg seatHasLaw28 seatHasRef01 seatAw fun _ => rfl
theorem own : ownKnob Tryz.prog.godebug = none := by kernel_rfl
theorem laidOut : laidOutB Tryz.prog = true := by kernel_rfl
set_option maxRecDepth 100000 in
theorem lifted (os : Os) (started : os.Started) (H : Type) (enc : TypeId × Value → H) :
    ReturnsInHanded {} Tryz.checked os 6 .any (Rows.managerNoneSpec.pre6 enc Tryz.prog Tryz.f6 Rows.managerNoneRow.domain false) (Rows.managerNoneSpec.post enc Tryz.prog Tryz.f6 false true false false) :=
  law_lifted (C := Tryz.checked) (f := 6) (fn := Tryz.f6) (s := Rows.managerNoneSpec) own (by kernel_rfl) Tryz.func6 laidOut (by kernel_rfl) (pars := _) (by kernel_rfl) (by kernel_rfl) (by kernel_rfl) Tryz.underlying4 rfl
    (fun Hd ds hl => by
      have hl' : ds.length = 2 := hl
      match ds, hl' with
      | [d0, d1], _ => rfl)
    seatSim (fun H vs dss _ wf h => keyManagerNone H vs dss wf h) started
    (ChangeSpec.witness6 (enc := enc) (C := Tryz.checked) false ⟨#[], #[.string ⟨#[]⟩, .int .i64 0], []⟩ 8 (by kernel_rfl) (by kernel_rfl) (by kernel_rfl) (by kernel_rfl))
theorem over : Rows.managerNoneRow.holds Tryz.pinned (OpenSpec.ofChange Rows.managerNoneSpec) :=
  OpenClaim.holds_of_wide 6 Tryz.f6 rfl rfl rfl rfl rfl rfl rfl ⟨rfl, rfl, rfl, rfl, rfl⟩ rfl rfl rfl rfl rfl (by kernel_rfl) Tryz.func6 (by kernel_rfl)
    (of_decide_eq_true (by kernel_rfl)) (by unfold Func.isWrapper; first | (rw [if_pos (by decide +kernel)]; kernel_rfl) | (rw [if_neg (by decide +kernel)]; exact ⟨rfl, rfl⟩))
    (fun os started H enc _ => lifted os started H enc)
theorem proved : Rows.ManagerNoneSaid := over
end Go.Proofs.YtndndcdblfejnaaGreatR.managerNone
namespace Go.Proofs.YtndndcdblfejnaaGreatR
theorem managerNone_holds : Rows.ManagerNoneSaid := managerNone.proved
end Go.Proofs.YtndndcdblfejnaaGreatR
