/- Segments and deeds as arguments. -/
import Derived.Test.YtdfjicnjcibdaaaUseM
import Derived.Test.YtdfjicnjcibdaaaDecode
namespace Go.Proofs.YtdfjicnjcibdaaaI
set_option linter.unusedSimpArgs false
set_option linter.unusedVariables false
open Go
theorem i64_lt {n : Int} (h : (Lit.int .i64 n).wf = true) : n < 9223372036854775808 := by
  have : IntKind.i64.min ≤ n ∧ n ≤ 9223372036854775807 := by simpa [Lit.wf] using h
  omega
section
variable {H : IHeap}
theorem row_DU {r : List Value} {d : List D} (h : Reps H r d) (ho : okDs [.i .i64, .i .i64, .i .i64, .i .i64, .i .i64, .i .i64] d) : ∃ v, r = rowDU v := by
  obtain ⟨x0, d', rfl, w0, ho⟩ := okDs_i ho
  obtain ⟨x1, d', rfl, w1, ho⟩ := okDs_i ho
  obtain ⟨x2, d', rfl, w2, ho⟩ := okDs_i ho
  obtain ⟨x3, d', rfl, w3, ho⟩ := okDs_i ho
  obtain ⟨x4, d', rfl, w4, ho⟩ := okDs_i ho
  obtain ⟨x5, d', rfl, w5, ho⟩ := okDs_i ho
  obtain rfl := okDs_nil ho
  obtain ⟨u0, us0, rfl, r0, h⟩ := h.cons_inv
  obtain ⟨u1, us1, rfl, r1, h⟩ := h.cons_inv
  obtain ⟨u2, us2, rfl, r2, h⟩ := h.cons_inv
  obtain ⟨u3, us3, rfl, r3, h⟩ := h.cons_inv
  obtain ⟨u4, us4, rfl, r4, h⟩ := h.cons_inv
  obtain ⟨u5, us5, rfl, r5, h⟩ := h.cons_inv
  obtain rfl := h.nil_inv
  obtain rfl := r0.i_inv
  obtain rfl := r1.i_inv
  obtain rfl := r2.i_inv
  obtain rfl := r3.i_inv
  obtain rfl := r4.i_inv
  obtain rfl := r5.i_inv
  exact ⟨⟨x0, x1, ⟨x2, x3, x4, x5⟩⟩, rfl⟩
theorem arg_DeedsU {v : Value} {d : List D} (wf : ∀ b, H.next ≤ b → H.get b = none) (h : ArgRep H false v d) (ho : okDs [.sl 48 6 [.i .i64, .i .i64, .i .i64, .i .i64, .i .i64, .i .i64]] d) : ∃ l : List DeedU, SlR H 6 v (l.map rowDU) := by
  obtain ⟨rows, s0, _, m0, r0⟩ := arg_sl wf h ho
  obtain ⟨l, rfl⟩ := rows_of (f := rowDU) fun r hr => by obtain ⟨ds, q1, q2⟩ := r0 r hr; exact row_DU q1 q2
  exact ⟨l, s0⟩
theorem arg_DU {v : Value} {d : List D} (h : ArgRep H true v d) (ho : okDs [.i .i64, .i .i64, .i .i64, .i .i64, .i .i64, .i .i64] d) : ∃ x : DeedU, v = .agg #[.int .i64 x.k, .int .i64 x.b, .int .i64 x.x.seg, .int .i64 x.x.size, .int .i64 x.x.live, .int .i64 x.x.born] := by
  obtain ⟨us, rfl, h⟩ := h
  obtain ⟨x, e⟩ := row_DU h ho
  refine ⟨x, ?_⟩
  cases us; simp [rowDU] at e; subst e; rfl
theorem row_Use {r : List Value} {d : List D} (h : Reps H r d) (ho : okDs [.i .i64, .i .i64, .i .i64, .i .i64] d) : ∃ v, r = rowT v := by
  obtain ⟨x0, d', rfl, w0, ho⟩ := okDs_i ho
  obtain ⟨x1, d', rfl, w1, ho⟩ := okDs_i ho
  obtain ⟨x2, d', rfl, w2, ho⟩ := okDs_i ho
  obtain ⟨x3, d', rfl, w3, ho⟩ := okDs_i ho
  obtain rfl := okDs_nil ho
  obtain ⟨u0, us0, rfl, r0, h⟩ := h.cons_inv
  obtain ⟨u1, us1, rfl, r1, h⟩ := h.cons_inv
  obtain ⟨u2, us2, rfl, r2, h⟩ := h.cons_inv
  obtain ⟨u3, us3, rfl, r3, h⟩ := h.cons_inv
  obtain rfl := h.nil_inv
  obtain rfl := r0.i_inv
  obtain rfl := r1.i_inv
  obtain rfl := r2.i_inv
  obtain rfl := r3.i_inv
  exact ⟨⟨x0, x1, x2, x3⟩, rfl⟩
theorem arg_Use {v : Value} {d : List D} (h : ArgRep H true v d) (ho : okDs [.i .i64, .i .i64, .i .i64, .i .i64] d) : ∃ x : UseD, v = uV x := by
  obtain ⟨us, rfl, h⟩ := h
  obtain ⟨x, e⟩ := row_Use h ho
  refine ⟨x, ?_⟩
  cases us; simp [rowT] at e; subst e; rfl
end
end Go.Proofs.YtdfjicnjcibdaaaI
