import Derived.Test.YthjdkcncnkcfaaaRows
import Derived.Test.YthjdkcncnkcfaaaSeat16
import Derived.WalkKit
import Derived.ProofKit
import Derived.OpenShut
import Derived.ShutString
import Derived.ChangeOld
import Derived.Below
import Derived.SizedLaws
namespace Go.Proofs.Ythjdkcncnkcfaaa.ballotPicks
set_option linter.unusedSimpArgs false
set_option linter.unusedVariables false
open Go.ChangeShapes Go.WideShapes Go.ChangeAt Go.RowKit
open Go.Proofs.YthjdkcncnkcfaaaI
theorem keyPicks (H : IHeap) (vs : List Value) (dss : List (List D)) (wf : ∀ b, H.next ≤ b → H.get b = none) (h : ArgsOk H [(false, [.sl 16 2 [.i .i64, .i .i64]]), (false, [.sl 40 4 [.i .i64, .i .i64, .i .i64, .s]])] vs dss) : seatC.C 4 vs H (fun r _ => r = .bool true) := by
  obtain ⟨v0, _, d0, _, rfl, rfl, a0, o0, h⟩ := h.cons_inv
  obtain ⟨v1, _, d1, _, rfl, rfl, a1, o1, h⟩ := h.cons_inv
  obtain rfl := h.nil_inv
  obtain ⟨rows, s0, _, m0, r0⟩ := arg_sl wf a0 o0
  obtain ⟨rows2, s1, _, m1, r1⟩ := arg_sl wf a1 o1
  obtain ⟨l, rfl⟩ := rows_of (f := rowB) fun r hr => by obtain ⟨ds, q1, q2⟩ := r0 r hr; exact row_B q1 q2
  obtain ⟨m, rfl⟩ := rows_of (f := rowV) fun r hr => by obtain ⟨ds, q1, q2⟩ := r1 r hr; exact row_V q1 q2
  rw [List.length_map] at m0 m1
  exact BallotPicks_law seatC seatHasBallot seatAw s0 s1 m0 m1
theorem own : ownKnob Try.prog.godebug = none := by kernel_rfl
theorem laidOut : laidOutB Try.prog = true := by kernel_rfl
set_option maxRecDepth 100000 in
theorem lifted (os : Os) (started : os.Started) (H : Type) (enc : TypeId × Value → H) :
    ReturnsInHanded {} Try.checked os 4 .any (Rows.ballotPicksSpec.pre6 enc Try.prog Try.f4 Rows.ballotPicksRow.domain false) (Rows.ballotPicksSpec.post enc Try.prog Try.f4 false true false false) :=
  law_lifted (C := Try.checked) (f := 4) (fn := Try.f4) (s := Rows.ballotPicksSpec) own (by kernel_rfl) Try.func4 laidOut (pars := _) (by kernel_rfl) (by kernel_rfl) (by kernel_rfl) Try.underlying4 rfl
    (fun Hd ds hl => by
      have hl' : ds.length = 2 := hl
      match ds, hl' with
      | [d0, d1], _ => rfl)
    seatSim (fun H vs dss _ wf h => keyPicks H vs dss wf h) started
    (ChangeSpec.witness6 (enc := enc) (C := Try.checked) false ⟨#[], #[.slice none 0 0, .slice none 0 0], []⟩ 8 (by kernel_rfl) (by kernel_rfl) (by kernel_rfl) (by kernel_rfl))
theorem over : Rows.ballotPicksRow.holds Try.pinned (OpenSpec.ofChange Rows.ballotPicksSpec) :=
  OpenClaim.holds_of_wide 4 Try.f4 rfl rfl rfl rfl rfl rfl rfl ⟨rfl, rfl, rfl, rfl, rfl⟩ rfl rfl rfl rfl rfl (by kernel_rfl) Try.func4 (by kernel_rfl)
    (of_decide_eq_true (by kernel_rfl)) (by unfold Func.isWrapper; first | (rw [if_pos (by decide +kernel)]; kernel_rfl) | (rw [if_neg (by decide +kernel)]; exact ⟨rfl, rfl⟩))
    (fun os started H enc _ => lifted os started H enc)
theorem proved : Rows.BallotPicksSaid := over
end Go.Proofs.Ythjdkcncnkcfaaa.ballotPicks
namespace Go.Proofs.Ythjdkcncnkcfaaa
theorem ballotPicks_holds : Rows.BallotPicksSaid := ballotPicks.proved
end Go.Proofs.Ythjdkcncnkcfaaa
