/-  -/
import Derived.Test.YtfmjbmddghjjmaaRows
import Derived.Test.YtfmjbmddghjjmaaSeat21
import Derived.WalkKit
import Derived.ProofKit
import Derived.OpenShut
import Derived.ShutString
import Derived.ChangeOld
import Derived.Below
import Derived.SizedLaws
namespace Go.Proofs.Ytfmjbmddghjjmaa.replicaNone
set_option linter.unusedSimpArgs false
set_option linter.unusedVariables false
open Go.ChangeShapes Go.WideShapes Go.ChangeAt Go.RowKit
open Go.Proofs.YtfmjbmddghjjmaaI
theorem keyReplicaNone (H : IHeap) (vs : List Value) (dss : List (List D)) (wf : ∀ b, H.next ≤ b → H.get b = none) (h : ArgsOk H [(true, [.i .i64, .i .i64, .s, .i .i64, .i .i64, .i .i64, .i .i64, .i .i64, .i .i64, .sl 40 4 [.i .i64, .i .i64, .i .i64, .s]])] vs dss) : seatC.C 5 vs H (fun r _ => r = .bool true) := by
  obtain ⟨v0, _, d0, _, rfl, rfl, a0, o0, h⟩ := h.cons_inv
  obtain rfl := h.nil_inv
  obtain ⟨us, rfl, c0⟩ := a0
  obtain ⟨x0, e0, rfl, w0, p0⟩ := okDs_i o0
  obtain ⟨x1, e1, rfl, w1, p1⟩ := okDs_i p0
  obtain ⟨t, e2, rfl, wt, p2⟩ := okDs_s p1
  obtain ⟨x3, e3, rfl, w3, p3⟩ := okDs_i p2
  obtain ⟨x4, e4, rfl, w4, p4⟩ := okDs_i p3
  obtain ⟨x5, e5, rfl, w5, p5⟩ := okDs_i p4
  obtain ⟨x6, e6, rfl, w6, p6⟩ := okDs_i p5
  obtain ⟨x7, e7, rfl, w7, p7⟩ := okDs_i p6
  obtain ⟨x8, e8, rfl, w8, p8⟩ := okDs_i p7
  obtain ⟨y, e9, rfl, wy, p9⟩ := okDs_sl p8
  obtain rfl := okDs_nil p9
  obtain ⟨u0, us0, q0, r0, c1⟩ := c0.cons_inv
  obtain ⟨u1, us1, rfl, r1, c2⟩ := c1.cons_inv
  obtain ⟨u2, us2, rfl, r2, c3⟩ := c2.cons_inv
  obtain ⟨u3, us3, rfl, r3, c4⟩ := c3.cons_inv
  obtain ⟨u4, us4, rfl, r4, c5⟩ := c4.cons_inv
  obtain ⟨u5, us5, rfl, r5, c6⟩ := c5.cons_inv
  obtain ⟨u6, us6, rfl, r6, c7⟩ := c6.cons_inv
  obtain ⟨u7, us7, rfl, r7, c8⟩ := c7.cons_inv
  obtain ⟨u8, us8, rfl, r8, c9⟩ := c8.cons_inv
  obtain ⟨u9, us9, rfl, r9, c10⟩ := c9.cons_inv
  obtain rfl := c10.nil_inv
  obtain rfl := r0.i_inv
  obtain rfl := r1.i_inv
  obtain rfl := r3.i_inv
  obtain rfl := r4.i_inv
  obtain rfl := r5.i_inv
  obtain rfl := r6.i_inv
  obtain rfl := r7.i_inv
  obtain rfl := r8.i_inv
  obtain rfl := r2.s_inv
  cases us; simp at q0; subst q0
  exact none_ok21 seatC seatN seatHasLaw21 seatAw fun _ => rfl
theorem own : ownKnob Try.prog.godebug = none := by kernel_rfl
theorem laidOut : laidOutB Try.prog = true := by kernel_rfl
set_option maxRecDepth 100000 in
theorem lifted (os : Os) (started : os.Started) (H : Type) (enc : TypeId × Value → H) :
    ReturnsInHanded {} Try.checked os 5 .any (Rows.replicaNoneSpec.pre6 enc Try.prog Try.f5 Rows.replicaNoneRow.domain false) (Rows.replicaNoneSpec.post enc Try.prog Try.f5 false true false false) :=
  law_lifted (C := Try.checked) (f := 5) (fn := Try.f5) (s := Rows.replicaNoneSpec) own (by kernel_rfl) Try.func5 laidOut (by kernel_rfl) (pars := _) (by kernel_rfl) (by kernel_rfl) (by kernel_rfl) Try.underlying4 rfl
    (fun Hd ds hl => by
      have hl' : ds.length = 1 := hl
      match ds, hl' with
      | [d0], _ => rfl)
    seatSim (fun H vs dss _ wf h => keyReplicaNone H vs dss wf h) started
    (ChangeSpec.witness6 (enc := enc) (C := Try.checked) false ⟨#[], #[.agg #[.int .i64 0, .int .i64 0, .string ⟨#[]⟩, .int .i64 0, .int .i64 0, .int .i64 0, .int .i64 0, .int .i64 0, .int .i64 0, .slice none 0 0]], []⟩ 8 (by kernel_rfl) (by kernel_rfl) (by kernel_rfl) (by kernel_rfl))
theorem over : Rows.replicaNoneRow.holds Try.pinned (OpenSpec.ofChange Rows.replicaNoneSpec) :=
  OpenClaim.holds_of_wide 5 Try.f5 rfl rfl rfl rfl rfl rfl rfl ⟨rfl, rfl, rfl, rfl, rfl⟩ rfl rfl rfl rfl rfl (by kernel_rfl) Try.func5 (by kernel_rfl)
    (of_decide_eq_true (by kernel_rfl)) (by unfold Func.isWrapper; first | (rw [if_pos (by decide +kernel)]; kernel_rfl) | (rw [if_neg (by decide +kernel)]; exact ⟨rfl, rfl⟩))
    (fun os started H enc _ => lifted os started H enc)
theorem proved : Rows.ReplicaNoneSaid := over
end Go.Proofs.Ytfmjbmddghjjmaa.replicaNone
namespace Go.Proofs.Ytfmjbmddghjjmaa
theorem replicaNone_holds : Rows.ReplicaNoneSaid := replicaNone.proved
end Go.Proofs.Ytfmjbmddghjjmaa
