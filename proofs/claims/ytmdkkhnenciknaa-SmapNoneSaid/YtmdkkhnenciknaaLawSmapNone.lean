/-  -/
import Derived.Test.YtmdkkhnenciknaaRows
import Derived.Test.YtmdkkhnenciknaaSeat24
import Derived.Test.YtmdkkhnenciknaaDecode24
import Derived.Test.YtmdkkhnenciknaaSmX
import Derived.WalkKit
import Derived.ProofKit
import Derived.OpenShut
import Derived.ShutString
import Derived.ChangeOld
import Derived.Below
import Derived.SizedLaws
namespace Go.Proofs.Ytmdkkhnenciknaa.smapNone
set_option linter.unusedSimpArgs false
set_option linter.unusedVariables false
open Go.ChangeShapes Go.WideShapes Go.ChangeAt Go.RowKit
open Go.Proofs.YtmdkkhnenciknaaI
theorem keySmapNone (H : IHeap) (vs : List Value) (dss : List (List D)) (wf : ∀ b, H.next ≤ b → H.get b = none) (h : ArgsOk H [(true, [.i .i64, .i .i64, .i .i64, .i .i64, .sl 8 1 [.i .i64]])] vs dss) : seatC.C 7 vs H (fun r _ => r = .bool true) := by
  obtain ⟨v0, _, d0, _, rfl, rfl, a0, o0, h⟩ := h.cons_inv
  obtain rfl := h.nil_inv
  obtain ⟨x, w, rfl, s1, s2⟩ := arg_DS wf a0 o0
  exact none_ok24 seatC seatHasSmap seatHasRef24 seatHasRef01 seatHasLaw24 seatAw s1 s2 fun _ => rfl
theorem own : ownKnob Try.prog.godebug = none := by kernel_rfl
theorem laidOut : laidOutB Try.prog = true := by kernel_rfl
set_option maxRecDepth 100000 in
theorem lifted (os : Os) (started : os.Started) (H : Type) (enc : TypeId × Value → H) :
    ReturnsInHanded {} Try.checked os 7 .any (Rows.smapNoneSpec.pre6 enc Try.prog Try.f7 Rows.smapNoneRow.domain false) (Rows.smapNoneSpec.post enc Try.prog Try.f7 false true false false) :=
  law_lifted (C := Try.checked) (f := 7) (fn := Try.f7) (s := Rows.smapNoneSpec) own (by kernel_rfl) Try.func7 laidOut (pars := _) (by kernel_rfl) (by kernel_rfl) (by kernel_rfl) Try.underlying4 rfl
    (fun Hd ds hl => by
      have hl' : ds.length = 1 := hl
      match ds, hl' with
      | [d0], _ => rfl)
    seatSim (fun H vs dss _ wf h => keySmapNone H vs dss wf h) started
    (ChangeSpec.witness6 (enc := enc) (C := Try.checked) false ⟨#[], #[.agg #[.int .i64 0, .int .i64 0, .int .i64 0, .int .i64 0, .slice none 0 0]], []⟩ 8 (by kernel_rfl) (by kernel_rfl) (by kernel_rfl) (by kernel_rfl))
theorem over : Rows.smapNoneRow.holds Try.pinned (OpenSpec.ofChange Rows.smapNoneSpec) :=
  OpenClaim.holds_of_wide 7 Try.f7 rfl rfl rfl rfl rfl rfl rfl ⟨rfl, rfl, rfl, rfl, rfl⟩ rfl rfl rfl rfl rfl (by kernel_rfl) Try.func7 (by kernel_rfl)
    (of_decide_eq_true (by kernel_rfl)) (by unfold Func.isWrapper; first | (rw [if_pos (by decide +kernel)]; kernel_rfl) | (rw [if_neg (by decide +kernel)]; exact ⟨rfl, rfl⟩))
    (fun os started H enc _ => lifted os started H enc)
theorem proved : Rows.SmapNoneSaid := over
end Go.Proofs.Ytmdkkhnenciknaa.smapNone
namespace Go.Proofs.Ytmdkkhnenciknaa
theorem smapNone_holds : Rows.SmapNoneSaid := smapNone.proved
end Go.Proofs.Ytmdkkhnenciknaa
