/-  -/
import Derived.Test.YtmdkkhnenciknaaRows
import Derived.Test.YtmdkkhnenciknaaSeat24
import Derived.Test.YtmdkkhnenciknaaDecode24
import Derived.Test.YtmdkkhnenciknaaSmX
import Derived.WalkKit
import Derived.ProofKit
import Derived.OpenShut
import Derived.ShutString
import Derived.ChangeOld
import Derived.Below
import Derived.SizedLaws
namespace Go.Proofs.Ytmdkkhnenciknaa.smapDrop
set_option linter.unusedSimpArgs false
set_option linter.unusedVariables false
open Go.ChangeShapes Go.WideShapes Go.ChangeAt Go.RowKit
open Go.Proofs.YtmdkkhnenciknaaI
theorem keySmapDrop (H : IHeap) (vs : List Value) (dss : List (List D)) (wf : ∀ b, H.next ≤ b → H.get b = none) (h : ArgsOk H [(false, [.sl 56 5 [.i .i64, .i .i64, .i .i64, .i .i64, .sl 8 1 [.i .i64]]]), (false, [.i .i64])] vs dss) : seatC.C 6 vs H (fun r _ => r = .bool true) := by
  obtain ⟨v0, _, d0, _, rfl, rfl, a0, o0, h⟩ := h.cons_inv
  obtain ⟨v1, _, d1, _, rfl, rfl, a1, o1, h⟩ := h.cons_inv
  obtain rfl := h.nil_inv
  obtain ⟨l, s1⟩ := arg_Deeds wf a0 o0
  obtain ⟨x, rfl, _⟩ := arg_i a1 o1
  exact drop_ok24 seatC seatHasSmap seatHasRef24 seatHasRef23 seatHasRef01 seatHasLaw24 seatAw s1 fun _ => rfl
theorem own : ownKnob Try.prog.godebug = none := by kernel_rfl
theorem laidOut : laidOutB Try.prog = true := by kernel_rfl
set_option maxRecDepth 100000 in
theorem lifted (os : Os) (started : os.Started) (H : Type) (enc : TypeId × Value → H) :
    ReturnsInHanded {} Try.checked os 6 .any (Rows.smapDropSpec.pre6 enc Try.prog Try.f6 Rows.smapDropRow.domain false) (Rows.smapDropSpec.post enc Try.prog Try.f6 false true false false) :=
  law_lifted (C := Try.checked) (f := 6) (fn := Try.f6) (s := Rows.smapDropSpec) own (by kernel_rfl) Try.func6 laidOut (pars := _) (by kernel_rfl) (by kernel_rfl) (by kernel_rfl) Try.underlying4 rfl
    (fun Hd ds hl => by
      have hl' : ds.length = 2 := hl
      match ds, hl' with
      | [d0, d1], _ => rfl)
    seatSim (fun H vs dss _ wf h => keySmapDrop H vs dss wf h) started
    (ChangeSpec.witness6 (enc := enc) (C := Try.checked) false ⟨#[], #[.slice none 0 0, .int .i64 0], []⟩ 8 (by kernel_rfl) (by kernel_rfl) (by kernel_rfl) (by kernel_rfl))
theorem over : Rows.smapDropRow.holds Try.pinned (OpenSpec.ofChange Rows.smapDropSpec) :=
  OpenClaim.holds_of_wide 6 Try.f6 rfl rfl rfl rfl rfl rfl rfl ⟨rfl, rfl, rfl, rfl, rfl⟩ rfl rfl rfl rfl rfl (by kernel_rfl) Try.func6 (by kernel_rfl)
    (of_decide_eq_true (by kernel_rfl)) (by unfold Func.isWrapper; first | (rw [if_pos (by decide +kernel)]; kernel_rfl) | (rw [if_neg (by decide +kernel)]; exact ⟨rfl, rfl⟩))
    (fun os started H enc _ => lifted os started H enc)
theorem proved : Rows.SmapDropSaid := over
end Go.Proofs.Ytmdkkhnenciknaa.smapDrop
namespace Go.Proofs.Ytmdkkhnenciknaa
theorem smapDrop_holds : Rows.SmapDropSaid := smapDrop.proved
end Go.Proofs.Ytmdkkhnenciknaa
