/-  -/
import Derived.Test.YtmdkkhnenciknaaRows
import Derived.Test.YtmdkkhnenciknaaSeat24
import Derived.Test.YtmdkkhnenciknaaDecode24
import Derived.Test.YtmdkkhnenciknaaSmX
import Derived.WalkKit
import Derived.ProofKit
import Derived.OpenShut
import Derived.ShutString
import Derived.ChangeOld
import Derived.Below
import Derived.SizedLaws
namespace Go.Proofs.Ytmdkkhnenciknaa.smapOrder
set_option linter.unusedSimpArgs false
set_option linter.unusedVariables false
open Go.ChangeShapes Go.WideShapes Go.ChangeAt Go.RowKit
open Go.Proofs.YtmdkkhnenciknaaI
theorem keySmapOrder (H : IHeap) (vs : List Value) (dss : List (List D)) (wf : ∀ b, H.next ≤ b → H.get b = none) (h : ArgsOk H [(false, [.sl 56 5 [.i .i64, .i .i64, .i .i64, .i .i64, .sl 8 1 [.i .i64]]])] vs dss) : seatC.C 4 vs H (fun r _ => r = .bool true) := by
  obtain ⟨v0, _, d0, _, rfl, rfl, a0, o0, h⟩ := h.cons_inv
  obtain rfl := h.nil_inv
  obtain ⟨l, s1⟩ := arg_Deeds wf a0 o0
  exact order_ok24 seatC seatHasSmap seatHasRef24 seatHasRef23 seatHasRef01 seatHasLaw24 seatAw s1 fun _ => rfl
theorem own : ownKnob Try.prog.godebug = none := by kernel_rfl
theorem laidOut : laidOutB Try.prog = true := by kernel_rfl
set_option maxRecDepth 100000 in
theorem lifted (os : Os) (started : os.Started) (H : Type) (enc : TypeId × Value → H) :
    ReturnsInHanded {} Try.checked os 4 .any (Rows.smapOrderSpec.pre6 enc Try.prog Try.f4 Rows.smapOrderRow.domain false) (Rows.smapOrderSpec.post enc Try.prog Try.f4 false true false false) :=
  law_lifted (C := Try.checked) (f := 4) (fn := Try.f4) (s := Rows.smapOrderSpec) own (by kernel_rfl) Try.func4 laidOut (pars := _) (by kernel_rfl) (by kernel_rfl) (by kernel_rfl) Try.underlying4 rfl
    (fun Hd ds hl => by
      have hl' : ds.length = 1 := hl
      match ds, hl' with
      | [d0], _ => rfl)
    seatSim (fun H vs dss _ wf h => keySmapOrder H vs dss wf h) started
    (ChangeSpec.witness6 (enc := enc) (C := Try.checked) false ⟨#[], #[.slice none 0 0], []⟩ 8 (by kernel_rfl) (by kernel_rfl) (by kernel_rfl) (by kernel_rfl))
theorem over : Rows.smapOrderRow.holds Try.pinned (OpenSpec.ofChange Rows.smapOrderSpec) :=
  OpenClaim.holds_of_wide 4 Try.f4 rfl rfl rfl rfl rfl rfl rfl ⟨rfl, rfl, rfl, rfl, rfl⟩ rfl rfl rfl rfl rfl (by kernel_rfl) Try.func4 (by kernel_rfl)
    (of_decide_eq_true (by kernel_rfl)) (by unfold Func.isWrapper; first | (rw [if_pos (by decide +kernel)]; kernel_rfl) | (rw [if_neg (by decide +kernel)]; exact ⟨rfl, rfl⟩))
    (fun os started H enc _ => lifted os started H enc)
theorem proved : Rows.SmapOrderSaid := over
end Go.Proofs.Ytmdkkhnenciknaa.smapOrder
namespace Go.Proofs.Ytmdkkhnenciknaa
theorem smapOrder_holds : Rows.SmapOrderSaid := smapOrder.proved
end Go.Proofs.Ytmdkkhnenciknaa
