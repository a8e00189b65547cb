/-  -/
import Derived.Test.YtpbbjfighohokaaRows
import Derived.Test.YtpbbjfighohokaaSeat22
import Derived.Test.YtpbbjfighohokaaTroCa
import Derived.WalkKit
import Derived.ProofKit
import Derived.OpenShut
import Derived.ShutString
import Derived.ChangeOld
import Derived.Below
import Derived.SizedLaws
namespace Go.Proofs.Ytpbbjfighohokaa.troopCalm
set_option linter.unusedSimpArgs false
set_option linter.unusedVariables false
open Go.ChangeShapes Go.WideShapes Go.ChangeAt Go.RowKit
open Go.Proofs.YtpbbjfighohokaaI
theorem keyTroopCalm (H : IHeap) (vs : List Value) (dss : List (List D)) (wf : ∀ b, H.next ≤ b → H.get b = none) (h : ArgsOk H [(false, [.i .i64]), (false, [.i .i64]), (false, [.sl 16 1 [.s]])] vs dss) : seatC.C 3 vs H (fun r _ => r = .bool true) := by
  obtain ⟨v0, _, d0, _, rfl, rfl, a0, o0, h⟩ := h.cons_inv
  obtain ⟨v1, _, d1, _, rfl, rfl, a1, o1, h⟩ := h.cons_inv
  obtain ⟨v2, _, d2, _, rfl, rfl, a2, o2, h⟩ := h.cons_inv
  obtain rfl := h.nil_inv
  obtain ⟨n0, rfl, w0⟩ := arg_i a0 o0
  obtain ⟨n1, rfl, w1⟩ := arg_i a1 o1
  obtain ⟨l, s1⟩ := arg_Texts wf a2 o2
  exact calm_ok22 seatC seatHasTroop seatN seatHasRef22 seatHasLaw22 seatAw s1 fun _ => rfl
theorem own : ownKnob Try.prog.godebug = none := by kernel_rfl
theorem laidOut : laidOutB Try.prog = true := by kernel_rfl
set_option maxRecDepth 100000 in
theorem lifted (os : Os) (started : os.Started) (H : Type) (enc : TypeId × Value → H) :
    ReturnsInHanded {} Try.checked os 3 .any (Rows.troopCalmSpec.pre6 enc Try.prog Try.f3 Rows.troopCalmRow.domain false) (Rows.troopCalmSpec.post enc Try.prog Try.f3 false true false false) :=
  law_lifted (C := Try.checked) (f := 3) (fn := Try.f3) (s := Rows.troopCalmSpec) own (by kernel_rfl) Try.func3 laidOut (by kernel_rfl) (pars := _) (by kernel_rfl) (by kernel_rfl) (by kernel_rfl) Try.underlying4 rfl
    (fun Hd ds hl => by
      have hl' : ds.length = 3 := hl
      match ds, hl' with
      | [d0, d1, d2], _ => rfl)
    seatSim (fun H vs dss _ wf h => keyTroopCalm H vs dss wf h) started
    (ChangeSpec.witness6 (enc := enc) (C := Try.checked) false ⟨#[], #[.int .i64 0, .int .i64 0, .slice none 0 0], []⟩ 8 (by kernel_rfl) (by kernel_rfl) (by kernel_rfl) (by kernel_rfl))
theorem over : Rows.troopCalmRow.holds Try.pinned (OpenSpec.ofChange Rows.troopCalmSpec) :=
  OpenClaim.holds_of_wide 3 Try.f3 rfl rfl rfl rfl rfl rfl rfl ⟨rfl, rfl, rfl, rfl, rfl⟩ rfl rfl rfl rfl rfl (by kernel_rfl) Try.func3 (by kernel_rfl)
    (of_decide_eq_true (by kernel_rfl)) (by unfold Func.isWrapper; first | (rw [if_pos (by decide +kernel)]; kernel_rfl) | (rw [if_neg (by decide +kernel)]; exact ⟨rfl, rfl⟩))
    (fun os started H enc _ => lifted os started H enc)
theorem proved : Rows.TroopCalmSaid := over
end Go.Proofs.Ytpbbjfighohokaa.troopCalm
namespace Go.Proofs.Ytpbbjfighohokaa
theorem troopCalm_holds : Rows.TroopCalmSaid := troopCalm.proved
end Go.Proofs.Ytpbbjfighohokaa
