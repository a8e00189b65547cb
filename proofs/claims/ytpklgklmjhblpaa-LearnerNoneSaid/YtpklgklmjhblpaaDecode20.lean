/- Deeds as arguments. -/
import Derived.Test.YtpklgklmjhblpaaLearnerL
namespace Go.Proofs.YtpklgklmjhblpaaI
set_option linter.unusedSimpArgs false
set_option linter.unusedVariables false
open Go
section
variable {H : IHeap}
theorem row_Deed {r : List Value} {d : List D} (h : Reps H r d) (ho : okDs [.i .i64, .i .i64, .i .i64, .i .i64, .i .i64, .s] d) : ∃ v, r = rowD v := by
  obtain ⟨x1, d', rfl, w1, ho⟩ := okDs_i ho
  obtain ⟨x2, d', rfl, w2, ho⟩ := okDs_i ho
  obtain ⟨x3, d', rfl, w3, ho⟩ := okDs_i ho
  obtain ⟨x4, d', rfl, w4, ho⟩ := okDs_i ho
  obtain ⟨x5, d', rfl, w5, ho⟩ := okDs_i ho
  obtain ⟨t, d', rfl, w6, ho⟩ := okDs_s ho
  obtain rfl := okDs_nil ho
  obtain ⟨u1, us1, rfl, r1, h⟩ := h.cons_inv
  obtain ⟨u2, us2, rfl, r2, h⟩ := h.cons_inv
  obtain ⟨u3, us3, rfl, r3, h⟩ := h.cons_inv
  obtain ⟨u4, us4, rfl, r4, h⟩ := h.cons_inv
  obtain ⟨u5, us5, rfl, r5, h⟩ := h.cons_inv
  obtain ⟨u6, us6, rfl, r6, h⟩ := h.cons_inv
  obtain rfl := h.nil_inv
  obtain rfl := r1.i_inv
  obtain rfl := r2.i_inv
  obtain rfl := r3.i_inv
  obtain rfl := r4.i_inv
  obtain rfl := r5.i_inv
  obtain rfl := r6.s_inv
  exact ⟨⟨x1, x2, x3, x4, x5, t⟩, rfl⟩
theorem arg_Deeds {v : Value} {d : List D} (wf : ∀ b, H.next ≤ b → H.get b = none) (h : ArgRep H false v d) (ho : okDs [.sl 56 6 [.i .i64, .i .i64, .i .i64, .i .i64, .i .i64, .s]] d) : ∃ l : List DeedD, SlR H 6 v (l.map rowD) := by
  obtain ⟨rows, s0, _, m0, r0⟩ := arg_sl wf h ho
  obtain ⟨l, rfl⟩ := rows_of (f := rowD) fun r hr => by obtain ⟨ds, q1, q2⟩ := r0 r hr; exact row_Deed q1 q2
  exact ⟨l, s0⟩
theorem arg_Deed {v : Value} {d : List D} (h : ArgRep H true v d) (ho : okDs [.i .i64, .i .i64, .i .i64, .i .i64, .i .i64, .s] d) : ∃ x, v = deedV x := by
  obtain ⟨us, rfl, h⟩ := h
  obtain ⟨x, e⟩ := row_Deed h ho
  refine ⟨x, ?_⟩
  cases us; simp [rowD] at e; subst e; rfl
end
end Go.Proofs.YtpklgklmjhblpaaI
