/-  -/
import Derived.Test.YtafnkmiggmfbdaaRows
import Derived.Test.YtafnkmiggmfbdaaSeat19
import Derived.Test.YtafnkmiggmfbdaaDecode19
import Derived.WalkKit
import Derived.ProofKit
import Derived.OpenShut
import Derived.ShutString
import Derived.ChangeOld
import Derived.Below
import Derived.SizedLaws
namespace Go.Proofs.Ytafnkmiggmfbdaa.proposerNone
set_option linter.unusedSimpArgs false
set_option linter.unusedVariables false
open Go.ChangeShapes Go.WideShapes Go.ChangeAt Go.RowKit
open Go.Proofs.YtafnkmiggmfbdaaI
theorem keyProposerNone (H : IHeap) (vs : List Value) (dss : List (List D)) (wf : ∀ b, H.next ≤ b → H.get b = none) (h : ArgsOk H [(true, [.i .i64, .i .i64, .i .i64, .i .i64, .i .i64, .s, .sl 40 4 [.i .i64, .i .i64, .i .i64, .s], .b])] vs dss) : seatC.C 4 vs H (fun r _ => r = .bool true) := by
  obtain ⟨v0, _, d0, _, rfl, rfl, a0, o0, h⟩ := h.cons_inv
  obtain rfl := h.nil_inv
  obtain ⟨us, rfl, c0⟩ := a0
  obtain ⟨x0, e0, rfl, w0, p0⟩ := okDs_i o0
  obtain ⟨x1, e1, rfl, w1, p1⟩ := okDs_i p0
  obtain ⟨x2, e2, rfl, w2, p2⟩ := okDs_i p1
  obtain ⟨x3, e3, rfl, w3, p3⟩ := okDs_i p2
  obtain ⟨x4, e4, rfl, w4, p4⟩ := okDs_i p3
  obtain ⟨t, e5, rfl, wt, p5⟩ := okDs_s p4
  obtain ⟨y, e6, rfl, wy, p6⟩ := okDs_sl p5
  obtain ⟨b, e7, rfl, p7⟩ := okDs_b p6
  obtain rfl := okDs_nil p7
  obtain ⟨u0, us0, q0, r0, c1⟩ := c0.cons_inv
  obtain ⟨u1, us1, rfl, r1, c2⟩ := c1.cons_inv
  obtain ⟨u2, us2, rfl, r2, c3⟩ := c2.cons_inv
  obtain ⟨u3, us3, rfl, r3, c4⟩ := c3.cons_inv
  obtain ⟨u4, us4, rfl, r4, c5⟩ := c4.cons_inv
  obtain ⟨u5, us5, rfl, r5, c6⟩ := c5.cons_inv
  obtain ⟨u6, us6, rfl, r6, c7⟩ := c6.cons_inv
  obtain ⟨u7, us7, rfl, r7, c8⟩ := c7.cons_inv
  obtain rfl := c8.nil_inv
  obtain rfl := r0.i_inv
  obtain rfl := r1.i_inv
  obtain rfl := r2.i_inv
  obtain rfl := r3.i_inv
  obtain rfl := r4.i_inv
  obtain rfl := r5.s_inv
  cases us; simp at q0; subst q0
  exact none_ok19 seatC seatHasProp seatHasLaw19 seatAw fun _ => rfl
theorem own : ownKnob Try.prog.godebug = none := by kernel_rfl
theorem laidOut : laidOutB Try.prog = true := by kernel_rfl
set_option maxRecDepth 100000 in
theorem lifted (os : Os) (started : os.Started) (H : Type) (enc : TypeId × Value → H) :
    ReturnsInHanded {} Try.checked os 4 .any (Rows.proposerNoneSpec.pre6 enc Try.prog Try.f4 Rows.proposerNoneRow.domain false) (Rows.proposerNoneSpec.post enc Try.prog Try.f4 false true false false) :=
  law_lifted (C := Try.checked) (f := 4) (fn := Try.f4) (s := Rows.proposerNoneSpec) own (by kernel_rfl) Try.func4 laidOut (by kernel_rfl) (pars := _) (by kernel_rfl) (by kernel_rfl) (by kernel_rfl) Try.underlying4 rfl
    (fun Hd ds hl => by
      have hl' : ds.length = 1 := hl
      match ds, hl' with
      | [d0], _ => rfl)
    seatSim (fun H vs dss _ wf h => keyProposerNone H vs dss wf h) started
    (ChangeSpec.witness6 (enc := enc) (C := Try.checked) false ⟨#[], #[.agg #[.int .i64 0, .int .i64 0, .int .i64 0, .int .i64 0, .int .i64 0, .string ⟨#[]⟩, .slice none 0 0, .bool false]], []⟩ 8 (by kernel_rfl) (by kernel_rfl) (by kernel_rfl) (by kernel_rfl))
theorem over : Rows.proposerNoneRow.holds Try.pinned (OpenSpec.ofChange Rows.proposerNoneSpec) :=
  OpenClaim.holds_of_wide 4 Try.f4 rfl rfl rfl rfl rfl rfl rfl ⟨rfl, rfl, rfl, rfl, rfl⟩ rfl rfl rfl rfl rfl (by kernel_rfl) Try.func4 (by kernel_rfl)
    (of_decide_eq_true (by kernel_rfl)) (by unfold Func.isWrapper; first | (rw [if_pos (by decide +kernel)]; kernel_rfl) | (rw [if_neg (by decide +kernel)]; exact ⟨rfl, rfl⟩))
    (fun os started H enc _ => lifted os started H enc)
theorem proved : Rows.ProposerNoneSaid := over
end Go.Proofs.Ytafnkmiggmfbdaa.proposerNone
namespace Go.Proofs.Ytafnkmiggmfbdaa
theorem proposerNone_holds : Rows.ProposerNoneSaid := proposerNone.proved
end Go.Proofs.Ytafnkmiggmfbdaa
