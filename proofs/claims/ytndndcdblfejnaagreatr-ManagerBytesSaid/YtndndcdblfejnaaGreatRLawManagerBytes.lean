/-  -/
import Derived.Test.YtndndcdblfejnaaGreatRRows
import Derived.Test.YtndndcdblfejnaaGreatRSeat28
import Derived.Test.YtndndcdblfejnaaGreatRDecode28
import Derived.Test.YtndndcdblfejnaaGreatRMgX
import Derived.WalkKit
import Derived.ProofKit
import Derived.OpenShut
import Derived.ShutString
import Derived.ChangeOld
import Derived.Below
import Derived.SizedLaws
namespace Go.Proofs.YtndndcdblfejnaaGreatR.managerBytes
set_option linter.unusedSimpArgs false
set_option linter.unusedVariables false
open Go.ChangeShapes Go.WideShapes Go.ChangeAt Go.RowKit
open Go.Proofs.YtndndcdblfejnaaGreatRI
theorem keyManagerBytes (H : IHeap) (vs : List Value) (dss : List (List D)) (wf : ∀ b, H.next ≤ b → H.get b = none) (h : ArgsOk H [(true, [.i .i64, .i .i64, .i .i64, .i .i64, .i .i64, .i .i64, .i .i64, .i .i64]), (false, [.s])] vs dss) : seatC.C 3 vs H (fun r _ => r = .bool true) := by
  obtain ⟨v0, _, d0, _, rfl, rfl, a0, o0, h⟩ := h.cons_inv
  obtain ⟨v1, _, d1, _, rfl, rfl, a1, o1, h⟩ := h.cons_inv
  obtain rfl := h.nil_inv
  obtain ⟨x, rfl, hx⟩ := arg_Cmd a0 o0
  obtain ⟨t1, rfl, _⟩ := arg_s a1 o1
  rw [strV_data]
  exact bytes_ok28 seatC seatMg seatHasRef03 seatHasLaw28 seatHasRef01 seatAw hx fun _ => rfl
theorem own : ownKnob Tryz.prog.godebug = none := by kernel_rfl
theorem laidOut : laidOutB Tryz.prog = true := by kernel_rfl
set_option maxRecDepth 100000 in
theorem lifted (os : Os) (started : os.Started) (H : Type) (enc : TypeId × Value → H) :
    ReturnsInHanded {} Tryz.checked os 3 .any (Rows.managerBytesSpec.pre6 enc Tryz.prog Tryz.f3 Rows.managerBytesRow.domain false) (Rows.managerBytesSpec.post enc Tryz.prog Tryz.f3 false true false false) :=
  law_lifted (C := Tryz.checked) (f := 3) (fn := Tryz.f3) (s := Rows.managerBytesSpec) own (by kernel_rfl) Tryz.func3 laidOut (by kernel_rfl) (pars := _) (by kernel_rfl) (by kernel_rfl) (by kernel_rfl) Tryz.underlying4 rfl
    (fun Hd ds hl => by
      have hl' : ds.length = 2 := hl
      match ds, hl' with
      | [d0, d1], _ => rfl)
    seatSim (fun H vs dss _ wf h => keyManagerBytes H vs dss wf h) started
    (ChangeSpec.witness6 (enc := enc) (C := Tryz.checked) false ⟨#[], #[.agg #[.int .i64 0, .int .i64 0, .int .i64 0, .int .i64 0, .int .i64 0, .int .i64 0, .int .i64 0, .int .i64 0], .string ⟨#[]⟩], []⟩ 8 (by kernel_rfl) (by kernel_rfl) (by kernel_rfl) (by kernel_rfl))
theorem over : Rows.managerBytesRow.holds Tryz.pinned (OpenSpec.ofChange Rows.managerBytesSpec) :=
  OpenClaim.holds_of_wide 3 Tryz.f3 rfl rfl rfl rfl rfl rfl rfl ⟨rfl, rfl, rfl, rfl, rfl⟩ rfl rfl rfl rfl rfl (by kernel_rfl) Tryz.func3 (by kernel_rfl)
    (of_decide_eq_true (by kernel_rfl)) (by unfold Func.isWrapper; first | (rw [if_pos (by decide +kernel)]; kernel_rfl) | (rw [if_neg (by decide +kernel)]; exact ⟨rfl, rfl⟩))
    (fun os started H enc _ => lifted os started H enc)
theorem proved : Rows.ManagerBytesSaid := over
end Go.Proofs.YtndndcdblfejnaaGreatR.managerBytes
namespace Go.Proofs.YtndndcdblfejnaaGreatR
theorem managerBytes_holds : Rows.ManagerBytesSaid := managerBytes.proved
end Go.Proofs.YtndndcdblfejnaaGreatR
