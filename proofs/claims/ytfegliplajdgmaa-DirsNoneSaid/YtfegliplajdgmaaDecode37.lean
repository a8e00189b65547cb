/- Deeds of a directory as arguments. -/
import Derived.Test.YtfegliplajdgmaaDirQ
import Derived.Test.YtfegliplajdgmaaDecode
namespace Go.Proofs.YtfegliplajdgmaaI
set_option linter.unusedSimpArgs false
set_option linter.unusedVariables false
open Go
section
variable {H : IHeap}
theorem row_DE {r : List Value} {d : List D} (h : Reps H r d) (ho : okDs [.i .i64, .i .i64, .s] d) : ∃ v, r = rowDE v := by
  obtain ⟨x1, d', rfl, w1, ho⟩ := okDs_i ho
  obtain ⟨x2, d', rfl, w2, ho⟩ := okDs_i ho
  obtain ⟨t, d', rfl, w6, ho⟩ := okDs_s ho
  obtain rfl := okDs_nil ho
  obtain ⟨u1, us1, rfl, r1, h⟩ := h.cons_inv
  obtain ⟨u2, us2, rfl, r2, h⟩ := h.cons_inv
  obtain ⟨u3, us3, rfl, r3, h⟩ := h.cons_inv
  obtain rfl := h.nil_inv
  obtain rfl := r1.i_inv
  obtain rfl := r2.i_inv
  obtain rfl := r3.s_inv
  exact ⟨⟨x1, x2, t.data.toList⟩, rfl⟩
theorem arg_DeedsE {v : Value} {d : List D} (wf : ∀ b, H.next ≤ b → H.get b = none) (h : ArgRep H false v d) (ho : okDs [.sl 32 3 [.i .i64, .i .i64, .s]] d) : ∃ l : List DeedE, SlR H 3 v (l.map rowDE) := by
  obtain ⟨rows, s0, _, m0, r0⟩ := arg_sl wf h ho
  obtain ⟨l, rfl⟩ := rows_of (f := rowDE) fun r hr => by obtain ⟨ds, q1, q2⟩ := r0 r hr; exact row_DE q1 q2
  exact ⟨l, s0⟩
theorem arg_DE {v : Value} {d : List D} (h : ArgRep H true v d) (ho : okDs [.i .i64, .i .i64, .s] d) : ∃ (k ino : Int) (nm : List UInt8), v = .agg #[.int .i64 k, .int .i64 ino, strV nm] := by
  obtain ⟨us, rfl, h⟩ := h
  obtain ⟨x, e⟩ := row_DE h ho
  refine ⟨x.k, x.ino, x.nm, ?_⟩
  cases us; simp [rowDE] at e; subst e; rfl
end
end Go.Proofs.YtfegliplajdgmaaI
