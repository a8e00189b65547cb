/- Deeds of an acceptor as arguments. -/
import Derived.Test.YtkgfnelapcpibaaAccL
import Derived.Test.YtkgfnelapcpibaaDecode
namespace Go.Proofs.YtkgfnelapcpibaaI
set_option linter.unusedSimpArgs false
set_option linter.unusedVariables false
open Go
section
variable {H : IHeap}
theorem row_Vote {r : List Value} {d : List D} (h : Reps H r d) (ho : okDs [.i .i64, .i .i64, .i .i64, .s] d) : ∃ v, r = rowV v := by
  obtain ⟨x1, d', rfl, w1, ho⟩ := okDs_i ho
  obtain ⟨x2, d', rfl, w2, ho⟩ := okDs_i ho
  obtain ⟨x3, d', rfl, w3, ho⟩ := okDs_i ho
  obtain ⟨t, d', rfl, w6, ho⟩ := okDs_s ho
  obtain rfl := okDs_nil ho
  obtain ⟨u1, us1, rfl, r1, h⟩ := h.cons_inv
  obtain ⟨u2, us2, rfl, r2, h⟩ := h.cons_inv
  obtain ⟨u3, us3, rfl, r3, h⟩ := h.cons_inv
  obtain ⟨u4, us4, rfl, r4, h⟩ := h.cons_inv
  obtain rfl := h.nil_inv
  obtain rfl := r1.i_inv
  obtain rfl := r2.i_inv
  obtain rfl := r3.i_inv
  obtain rfl := r4.s_inv
  exact ⟨⟨x1, x2, x3, t⟩, rfl⟩
theorem row_Deed {r : List Value} {d : List D} (h : Reps H r d) (ho : okDs [.i .i64, .i .i64, .i .i64, .i .i64, .s] d) : ∃ v, r = rowD v := by
  obtain ⟨x1, d', rfl, w1, ho⟩ := okDs_i ho
  obtain ⟨u1, us1, rfl, r1, h⟩ := h.cons_inv
  obtain ⟨v, rfl⟩ := row_Vote h ho
  obtain rfl := r1.i_inv
  exact ⟨⟨x1, v⟩, rfl⟩
theorem row_Ball {r : List Value} {d : List D} (h : Reps H r d) (ho : okDs [.i .i64, .i .i64] d) : ∃ a n : Int, r = [.int .i64 a, .int .i64 n] := by
  obtain ⟨x1, d', rfl, w1, ho⟩ := okDs_i ho
  obtain ⟨x2, d', rfl, w2, ho⟩ := okDs_i ho
  obtain rfl := okDs_nil ho
  obtain ⟨u1, us1, rfl, r1, h⟩ := h.cons_inv
  obtain ⟨u2, us2, rfl, r2, h⟩ := h.cons_inv
  obtain rfl := h.nil_inv
  obtain rfl := r1.i_inv
  obtain rfl := r2.i_inv
  exact ⟨x1, x2, rfl⟩
theorem arg_Deeds {v : Value} {d : List D} (wf : ∀ b, H.next ≤ b → H.get b = none) (h : ArgRep H false v d) (ho : okDs [.sl 48 5 [.i .i64, .i .i64, .i .i64, .i .i64, .s]] d) : ∃ l : List DeedA, SlR H 5 v (l.map rowD) := by
  obtain ⟨rows, s0, _, m0, r0⟩ := arg_sl wf h ho
  obtain ⟨l, rfl⟩ := rows_of (f := rowD) fun r hr => by obtain ⟨ds, q1, q2⟩ := r0 r hr; exact row_Deed q1 q2
  exact ⟨l, s0⟩
theorem arg_Vote {v : Value} {d : List D} (h : ArgRep H true v d) (ho : okDs [.i .i64, .i .i64, .i .i64, .s] d) : ∃ x, v = vV x := by
  obtain ⟨us, rfl, h⟩ := h
  obtain ⟨x, e⟩ := row_Vote h ho
  refine ⟨x, ?_⟩
  cases us; simp [rowV] at e; subst e; rfl
theorem arg_Ball {v : Value} {d : List D} (h : ArgRep H true v d) (ho : okDs [.i .i64, .i .i64] d) : ∃ a n, v = vB a n := by
  obtain ⟨us, rfl, h⟩ := h
  obtain ⟨a, n, e⟩ := row_Ball h ho
  refine ⟨a, n, ?_⟩
  cases us; simp at e; subst e; rfl
end
end Go.Proofs.YtkgfnelapcpibaaI
