/-  -/
import Derived.Test.YtdfjicnjcibdaaaRows
import Derived.Test.YtdfjicnjcibdaaaSeat26
import Derived.Test.YtdfjicnjcibdaaaDecode26
import Derived.Test.YtdfjicnjcibdaaaUseN
import Derived.WalkKit
import Derived.ProofKit
import Derived.OpenShut
import Derived.ShutString
import Derived.ChangeOld
import Derived.Below
import Derived.SizedLaws
namespace Go.Proofs.Ytdfjicnjcibdaaa.usageNone
set_option linter.unusedSimpArgs false
set_option linter.unusedVariables false
open Go.ChangeShapes Go.WideShapes Go.ChangeAt Go.RowKit
open Go.Proofs.YtdfjicnjcibdaaaI
theorem keyUsageNone (H : IHeap) (vs : List Value) (dss : List (List D)) (wf : ∀ b, H.next ≤ b → H.get b = none) (h : ArgsOk H [(true, [.i .i64, .i .i64, .i .i64, .i .i64, .i .i64, .i .i64]), (false, [.i .i64])] vs dss) : seatC.C 7 vs H (fun r _ => r = .bool true) := by
  obtain ⟨v0, _, d0, _, rfl, rfl, a0, o0, h⟩ := h.cons_inv
  obtain ⟨v1, _, d1, _, rfl, rfl, a1, o1, h⟩ := h.cons_inv
  obtain rfl := h.nil_inv
  obtain ⟨x, rfl⟩ := arg_DU a0 o0
  obtain ⟨n1, rfl, w1⟩ := arg_i a1 o1
  exact none_ok26 seatC seatHasUse seatIsErr seatHasLaw26 seatAw fun _ => rfl
theorem own : ownKnob Try.prog.godebug = none := by kernel_rfl
theorem laidOut : laidOutB Try.prog = true := by kernel_rfl
set_option maxRecDepth 100000 in
theorem lifted (os : Os) (started : os.Started) (H : Type) (enc : TypeId × Value → H) :
    ReturnsInHanded {} Try.checked os 7 .any (Rows.usageNoneSpec.pre6 enc Try.prog Try.f7 Rows.usageNoneRow.domain false) (Rows.usageNoneSpec.post enc Try.prog Try.f7 false true false false) :=
  law_lifted (C := Try.checked) (f := 7) (fn := Try.f7) (s := Rows.usageNoneSpec) own (by kernel_rfl) Try.func7 laidOut (by kernel_rfl) (pars := _) (by kernel_rfl) (by kernel_rfl) (by kernel_rfl) Try.underlying4 rfl
    (fun Hd ds hl => by
      have hl' : ds.length = 2 := hl
      match ds, hl' with
      | [d0, d1], _ => rfl)
    seatSim (fun H vs dss _ wf h => keyUsageNone H vs dss wf h) started
    (ChangeSpec.witness6 (enc := enc) (C := Try.checked) false ⟨#[], #[.agg #[.int .i64 0, .int .i64 0, .int .i64 0, .int .i64 0, .int .i64 0, .int .i64 0], .int .i64 0], []⟩ 8 (by kernel_rfl) (by kernel_rfl) (by kernel_rfl) (by kernel_rfl))
theorem over : Rows.usageNoneRow.holds Try.pinned (OpenSpec.ofChange Rows.usageNoneSpec) :=
  OpenClaim.holds_of_wide 7 Try.f7 rfl rfl rfl rfl rfl rfl rfl ⟨rfl, rfl, rfl, rfl, rfl⟩ rfl rfl rfl rfl rfl (by kernel_rfl) Try.func7 (by kernel_rfl)
    (of_decide_eq_true (by kernel_rfl)) (by unfold Func.isWrapper; first | (rw [if_pos (by decide +kernel)]; kernel_rfl) | (rw [if_neg (by decide +kernel)]; exact ⟨rfl, rfl⟩))
    (fun os started H enc _ => lifted os started H enc)
theorem proved : Rows.UsageNoneSaid := over
end Go.Proofs.Ytdfjicnjcibdaaa.usageNone
namespace Go.Proofs.Ytdfjicnjcibdaaa
theorem usageNone_holds : Rows.UsageNoneSaid := usageNone.proved
end Go.Proofs.Ytdfjicnjcibdaaa
