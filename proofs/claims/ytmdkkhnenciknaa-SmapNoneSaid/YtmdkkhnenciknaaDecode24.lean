/- Deeds of stripes as arguments. -/
import Derived.Test.YtmdkkhnenciknaaSmR
import Derived.Test.YtmdkkhnenciknaaDecodeW
namespace Go.Proofs.YtmdkkhnenciknaaI
set_option linter.unusedSimpArgs false
set_option linter.unusedVariables false
open Go
section
variable {H : IHeap}
theorem rows_ofR {α β : Type} {p : α → β → Prop} : ∀ {rows : List α}, (∀ r ∈ rows, ∃ x, p r x) → ∃ l : List β, rows.length = l.length ∧ ∀ (i : Nat) (x : β), l[i]? = some x → ∃ r, rows[i]? = some r ∧ p r x
  | [], _ => ⟨[], rfl, fun i x hx => by simp at hx⟩
  | r :: rows, h => by
    obtain ⟨x, hx⟩ := h r (by simp)
    obtain ⟨l, e, hl⟩ := rows_ofR (rows := rows) fun s hs => h s (by simp [hs])
    refine ⟨x :: l, by simp [e], fun i y hy => ?_⟩
    cases i with
    | zero =>
      simp only [List.getElem?_cons_zero, Option.some.injEq] at hy
      subst hy
      exact ⟨r, rfl, hx⟩
    | succ i => exact hl i y hy
def okDS (H : IHeap) (r : List Value) (x : DS) : Prop := ∃ w, r = rowDS x w ∧ SlW H 1 w (x.sv.map rowI) ∧ x.b < 9223372036854775808 ∧ x.sv.length * 8 ≤ 140737488355328
theorem row_DS {r : List Value} {d : List D} (wf : ∀ b, H.next ≤ b → H.get b = none) (h : Reps H r d) (ho : okDs [.i .i64, .i .i64, .i .i64, .i .i64, .sl 8 1 [.i .i64]] d) : ∃ x, okDS H r x := by
  obtain ⟨x1, d', rfl, w1, ho⟩ := okDs_i ho
  obtain ⟨x2, d', rfl, w2, ho⟩ := okDs_i ho
  obtain ⟨x3, d', rfl, w3, ho⟩ := okDs_i ho
  obtain ⟨x4, d', rfl, w4, ho⟩ := okDs_i ho
  obtain ⟨x5, d', rfl, w5, ho⟩ := okDs_sl ho
  obtain rfl := okDs_nil ho
  obtain ⟨u1, us1, rfl, r1, h⟩ := h.cons_inv
  obtain ⟨u2, us2, rfl, r2, h⟩ := h.cons_inv
  obtain ⟨u3, us3, rfl, r3, h⟩ := h.cons_inv
  obtain ⟨u4, us4, rfl, r4, h⟩ := h.cons_inv
  obtain ⟨u5, us5, rfl, r5, h⟩ := h.cons_inv
  obtain rfl := h.nil_inv
  obtain rfl := r1.i_inv
  obtain rfl := r2.i_inv
  obtain rfl := r3.i_inv
  obtain rfl := r4.i_inv
  obtain ⟨rows, s0, m1, _, r0⟩ := rep_slw wf r5 w5
  obtain ⟨l, rfl⟩ := rows_of (f := rowI) fun r hr => by obtain ⟨ds, q1, q2⟩ := r0 r hr; exact row_I q1 q2
  have e : reachBytes = 140737488351232 := rfl
  rw [List.length_map] at m1
  exact ⟨⟨x1, x2, x3, x4, l⟩, u5, rfl, s0, (wf64 w3).2, by simp only; omega⟩
theorem arg_Deeds {v : Value} {d : List D} (wf : ∀ b, H.next ≤ b → H.get b = none) (h : ArgRep H false v d) (ho : okDs [.sl 56 5 [.i .i64, .i .i64, .i .i64, .i .i64, .sl 8 1 [.i .i64]]] d) : ∃ l : List DS, Deeds H v l := by
  obtain ⟨rows, s0, _, m0, r0⟩ := arg_sl wf h ho
  obtain ⟨l, e, hl⟩ := rows_ofR (p := okDS H) fun r hr => by obtain ⟨ds, q1, q2⟩ := r0 r hr; exact row_DS wf q1 q2
  refine ⟨l, rows, s0, e, fun i x hx => ?_⟩
  obtain ⟨r, h1, w, rfl, h2, h3, _⟩ := hl i x hx
  exact ⟨w, h1, h2, h3⟩
theorem arg_DS {v : Value} {d : List D} (wf : ∀ b, H.next ≤ b → H.get b = none) (h : ArgRep H true v d) (ho : okDs [.i .i64, .i .i64, .i .i64, .i .i64, .sl 8 1 [.i .i64]] d) : ∃ x w, v = dsV x w ∧ SlW H 1 w (x.sv.map rowI) ∧ x.sv.length * 8 ≤ 140737488355328 := by
  obtain ⟨us, rfl, h⟩ := h
  obtain ⟨x, w, e, h1, _, h2⟩ := row_DS wf h ho
  refine ⟨x, w, ?_, h1, h2⟩
  cases us; simp [rowDS] at e; subst e; rfl
end
end Go.Proofs.YtmdkkhnenciknaaI
