/-  -/
import Derived.Test.YtkgfnelapcpibaaRows
import Derived.Test.YtkgfnelapcpibaaSeat17
import Derived.Test.YtkgfnelapcpibaaDecode17
import Derived.Test.YtkgfnelapcpibaaAccP
import Derived.Test.YtkgfnelapcpibaaAccT
import Derived.WalkKit
import Derived.ProofKit
import Derived.OpenShut
import Derived.ShutString
import Derived.ChangeOld
import Derived.Below
import Derived.SizedLaws
namespace Go.Proofs.Ytkgfnelapcpibaa.acceptorTells
set_option linter.unusedSimpArgs false
set_option linter.unusedVariables false
open Go.ChangeShapes Go.WideShapes Go.ChangeAt Go.RowKit
open Go.Proofs.YtkgfnelapcpibaaI
theorem keyAcceptorTells (H : IHeap) (vs : List Value) (dss : List (List D)) (wf : ∀ b, H.next ≤ b → H.get b = none) (h : ArgsOk H [(true, [.i .i64, .i .i64, .i .i64, .s]), (false, [.sl 48 5 [.i .i64, .i .i64, .i .i64, .i .i64, .s]]), (true, [.i .i64, .i .i64])] vs dss) : seatC.C 5 vs H (fun r _ => r = .bool true) := by
  obtain ⟨v0, _, d0, _, rfl, rfl, a0, o0, h⟩ := h.cons_inv
  obtain ⟨v1, _, d1, _, rfl, rfl, a1, o1, h⟩ := h.cons_inv
  obtain ⟨v2, _, d2, _, rfl, rfl, a2, o2, h⟩ := h.cons_inv
  obtain rfl := h.nil_inv
  obtain ⟨x, rfl⟩ := arg_Vote a0 o0
  obtain ⟨l, s1⟩ := arg_Deeds wf a1 o1
  obtain ⟨ba, bn, rfl⟩ := arg_Ball a2 o2
  exact tells_ok17 seatC seatHasAcc seatHasBalA seatInsOk seatHasLaw17 seatAw s1 fun _ => rfl
theorem own : ownKnob Try.prog.godebug = none := by kernel_rfl
theorem laidOut : laidOutB Try.prog = true := by kernel_rfl
set_option maxRecDepth 100000 in
theorem lifted (os : Os) (started : os.Started) (H : Type) (enc : TypeId × Value → H) :
    ReturnsInHanded {} Try.checked os 5 .any (Rows.acceptorTellsSpec.pre6 enc Try.prog Try.f5 Rows.acceptorTellsRow.domain false) (Rows.acceptorTellsSpec.post enc Try.prog Try.f5 false true false false) :=
  law_lifted (C := Try.checked) (f := 5) (fn := Try.f5) (s := Rows.acceptorTellsSpec) own (by kernel_rfl) Try.func5 laidOut (by kernel_rfl) (pars := _) (by kernel_rfl) (by kernel_rfl) (by kernel_rfl) Try.underlying4 rfl
    (fun Hd ds hl => by
      have hl' : ds.length = 3 := hl
      match ds, hl' with
      | [d0, d1, d2], _ => rfl)
    seatSim (fun H vs dss _ wf h => keyAcceptorTells H vs dss wf h) started
    (ChangeSpec.witness6 (enc := enc) (C := Try.checked) false ⟨#[], #[.agg #[.int .i64 0, .int .i64 0, .int .i64 0, .string ⟨#[]⟩], .slice none 0 0, .agg #[.int .i64 0, .int .i64 0]], []⟩ 8 (by kernel_rfl) (by kernel_rfl) (by kernel_rfl) (by kernel_rfl))
theorem over : Rows.acceptorTellsRow.holds Try.pinned (OpenSpec.ofChange Rows.acceptorTellsSpec) :=
  OpenClaim.holds_of_wide 5 Try.f5 rfl rfl rfl rfl rfl rfl rfl ⟨rfl, rfl, rfl, rfl, rfl⟩ rfl rfl rfl rfl rfl (by kernel_rfl) Try.func5 (by kernel_rfl)
    (of_decide_eq_true (by kernel_rfl)) (by unfold Func.isWrapper; first | (rw [if_pos (by decide +kernel)]; kernel_rfl) | (rw [if_neg (by decide +kernel)]; exact ⟨rfl, rfl⟩))
    (fun os started H enc _ => lifted os started H enc)
theorem proved : Rows.AcceptorTellsSaid := over
end Go.Proofs.Ytkgfnelapcpibaa.acceptorTells
namespace Go.Proofs.Ytkgfnelapcpibaa
theorem acceptorTells_holds : Rows.AcceptorTellsSaid := acceptorTells.proved
end Go.Proofs.Ytkgfnelapcpibaa
