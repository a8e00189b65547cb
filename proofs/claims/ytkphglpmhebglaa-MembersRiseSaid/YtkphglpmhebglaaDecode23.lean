/- Groups and deeds as arguments. -/
import Derived.Test.YtkphglpmhebglaaMemL
import Derived.Test.YtkphglpmhebglaaDecodeW
namespace Go.Proofs.YtkphglpmhebglaaI
set_option linter.unusedSimpArgs false
set_option linter.unusedVariables false
open Go
section
variable {H : IHeap}
theorem row_DM {r : List Value} {d : List D} (h : Reps H r d) (ho : okDs [.i .i64, .i .i64, .i .i64, .b] d) : ∃ v, r = rowDM v := by
  obtain ⟨x1, d', rfl, w1, ho⟩ := okDs_i ho
  obtain ⟨x2, d', rfl, w2, ho⟩ := okDs_i ho
  obtain ⟨x3, d', rfl, w3, ho⟩ := okDs_i ho
  obtain ⟨x4, d', rfl, ho4⟩ := okDs_b ho
  obtain rfl := okDs_nil ho4
  obtain ⟨u1, us1, rfl, r1, h⟩ := h.cons_inv
  obtain ⟨u2, us2, rfl, r2, h⟩ := h.cons_inv
  obtain ⟨u3, us3, rfl, r3, h⟩ := h.cons_inv
  obtain ⟨u4, us4, rfl, r4, h⟩ := h.cons_inv
  obtain rfl := h.nil_inv
  obtain rfl := r1.i_inv
  obtain rfl := r2.i_inv
  obtain rfl := r3.i_inv
  obtain rfl := r4.b_inv
  exact ⟨⟨x1, x2, x3, x4⟩, rfl⟩
theorem arg_DMs {v : Value} {d : List D} (wf : ∀ b, H.next ≤ b → H.get b = none) (h : ArgRep H false v d) (ho : okDs [.sl 32 4 [.i .i64, .i .i64, .i .i64, .b]] d) : ∃ l : List DM, SlR H 4 v (l.map rowDM) := by
  obtain ⟨rows, s0, _, m0, r0⟩ := arg_sl wf h ho
  obtain ⟨l, rfl⟩ := rows_of (f := rowDM) fun r hr => by obtain ⟨ds, q1, q2⟩ := r0 r hr; exact row_DM q1 q2
  exact ⟨l, s0⟩
theorem arg_DM {v : Value} {d : List D} (h : ArgRep H true v d) (ho : okDs [.i .i64, .i .i64, .i .i64, .b] d) : ∃ x, v = dmV x := by
  obtain ⟨us, rfl, h⟩ := h
  obtain ⟨x, e⟩ := row_DM h ho
  refine ⟨x, ?_⟩
  cases us; simp [rowDM] at e; subst e; rfl
theorem arg_Group {v : Value} {d : List D} (wf : ∀ b, H.next ≤ b → H.get b = none) (h : ArgRep H true v d) (ho : okDs [.sl 8 1 [.i .i64], .sl 8 1 [.i .i64]] d) :
    ∃ u1 u2, ∃ L P : List Int, v = .agg #[u1, u2] ∧ SlW H 1 u1 (L.map rowI) ∧ SlW H 1 u2 (P.map rowI) := by
  obtain ⟨us, rfl, h⟩ := h
  obtain ⟨x1, d', rfl, w1, ho⟩ := okDs_sl ho
  obtain ⟨x2, d', rfl, w2, ho⟩ := okDs_sl ho
  obtain rfl := okDs_nil ho
  obtain ⟨us⟩ := us
  obtain ⟨u1, us1, e1, r1, h⟩ := h.cons_inv
  obtain ⟨u2, us2, e2, r2, h⟩ := h.cons_inv
  obtain rfl := h.nil_inv
  subst e2
  simp only at e1
  subst e1
  obtain ⟨L, s1⟩ := rep_ints wf r1 w1
  obtain ⟨P, s2⟩ := rep_ints wf r2 w2
  exact ⟨u1, u2, L, P, rfl, s1, s2⟩
end
end Go.Proofs.YtkphglpmhebglaaI
