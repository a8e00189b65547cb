/-  -/
import Derived.Test.YtkphglpmhebglaaRows
import Derived.Test.YtkphglpmhebglaaSeat23
import Derived.Test.YtkphglpmhebglaaDecode23
import Derived.Test.YtkphglpmhebglaaMemN
import Derived.WalkKit
import Derived.ProofKit
import Derived.OpenShut
import Derived.ShutString
import Derived.ChangeOld
import Derived.Below
import Derived.SizedLaws
namespace Go.Proofs.Ytkphglpmhebglaa.membersRise
set_option linter.unusedSimpArgs false
set_option linter.unusedVariables false
open Go.ChangeShapes Go.WideShapes Go.ChangeAt Go.RowKit
open Go.Proofs.YtkphglpmhebglaaI
theorem keyMembersRise (H : IHeap) (vs : List Value) (dss : List (List D)) (wf : ∀ b, H.next ≤ b → H.get b = none) (h : ArgsOk H [(true, [.sl 8 1 [.i .i64], .sl 8 1 [.i .i64]]), (false, [.sl 32 4 [.i .i64, .i .i64, .i .i64, .b]])] vs dss) : seatC.C 4 vs H (fun r _ => r = .bool true) := by
  obtain ⟨v0, _, d0, _, rfl, rfl, a0, o0, h⟩ := h.cons_inv
  obtain ⟨v1, _, d1, _, rfl, rfl, a1, o1, h⟩ := h.cons_inv
  obtain rfl := h.nil_inv
  obtain ⟨u1, u2, L, P, rfl, s1, s2⟩ := arg_Group wf a0 o0
  obtain ⟨l, s3⟩ := arg_DMs wf a1 o1
  exact rise_ok seatC seatHasMembers seatHasRef23 seatHasLaw23 seatAw s1 s2 s3 fun _ => rfl
theorem own : ownKnob Try.prog.godebug = none := by kernel_rfl
theorem laidOut : laidOutB Try.prog = true := by kernel_rfl
set_option maxRecDepth 100000 in
theorem lifted (os : Os) (started : os.Started) (H : Type) (enc : TypeId × Value → H) :
    ReturnsInHanded {} Try.checked os 4 .any (Rows.membersRiseSpec.pre6 enc Try.prog Try.f4 Rows.membersRiseRow.domain false) (Rows.membersRiseSpec.post enc Try.prog Try.f4 false true false false) :=
  law_lifted (C := Try.checked) (f := 4) (fn := Try.f4) (s := Rows.membersRiseSpec) own (by kernel_rfl) Try.func4 laidOut (pars := _) (by kernel_rfl) (by kernel_rfl) (by kernel_rfl) Try.underlying4 rfl
    (fun Hd ds hl => by
      have hl' : ds.length = 2 := hl
      match ds, hl' with
      | [d0, d1], _ => rfl)
    seatSim (fun H vs dss _ wf h => keyMembersRise H vs dss wf h) started
    (ChangeSpec.witness6 (enc := enc) (C := Try.checked) false ⟨#[], #[.agg #[.slice none 0 0, .slice none 0 0], .slice none 0 0], []⟩ 8 (by kernel_rfl) (by kernel_rfl) (by kernel_rfl) (by kernel_rfl))
theorem over : Rows.membersRiseRow.holds Try.pinned (OpenSpec.ofChange Rows.membersRiseSpec) :=
  OpenClaim.holds_of_wide 4 Try.f4 rfl rfl rfl rfl rfl rfl rfl ⟨rfl, rfl, rfl, rfl, rfl⟩ rfl rfl rfl rfl rfl (by kernel_rfl) Try.func4 (by kernel_rfl)
    (of_decide_eq_true (by kernel_rfl)) (by unfold Func.isWrapper; first | (rw [if_pos (by decide +kernel)]; kernel_rfl) | (rw [if_neg (by decide +kernel)]; exact ⟨rfl, rfl⟩))
    (fun os started H enc _ => lifted os started H enc)
theorem proved : Rows.MembersRiseSaid := over
end Go.Proofs.Ytkphglpmhebglaa.membersRise
namespace Go.Proofs.Ytkphglpmhebglaa
theorem membersRise_holds : Rows.MembersRiseSaid := membersRise.proved
end Go.Proofs.Ytkphglpmhebglaa
