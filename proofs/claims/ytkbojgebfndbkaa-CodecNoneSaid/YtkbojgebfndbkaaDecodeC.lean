/- Items as arguments. -/
import Derived.Test.YtkbojgebfndbkaaCodecI
namespace Go.Proofs.YtkbojgebfndbkaaI
set_option linter.unusedSimpArgs false
set_option linter.unusedVariables false
open Go

section
variable {H : IHeap}
theorem rows_ofP {α : Type} {f : α → List Value} {P : α → Prop} : ∀ {rows : List (List Value)}, (∀ r ∈ rows, ∃ a, r = f a ∧ P a) → ∃ l : List α, rows = l.map f ∧ ∀ a ∈ l, P a
  | [], _ => ⟨[], rfl, by simp⟩
  | r :: rows, h => by
    obtain ⟨a, rfl, pa⟩ := h r (by simp)
    obtain ⟨l, rfl, pl⟩ := rows_ofP (rows := rows) fun x hx => h x (by simp [hx])
    refine ⟨a :: l, rfl, fun b hb => ?_⟩
    rcases List.mem_cons.1 hb with rfl | hb
    · exact pa
    · exact pl b hb

theorem rep_sl {by' size : Nat} {e : List Sh} {v : Value} {x : D} (wf : ∀ b, H.next ≤ b → H.get b = none) (h : Rep H v x) (ho : okD (.sl by' size e) x) :
    ∃ rows : List (List Value), SlR H size v rows ∧ rows.length * by' ≤ reachBytes ∧ rows.length ≤ maxLen ∧ ∀ r ∈ rows, ∃ ds, Reps H r ds ∧ okDs e ds :=
  arg_sl (d := [x]) wf (Reps.one h) ⟨ho, trivial⟩

theorem row_I {r : List Value} {d : List D} (h : Reps H r d) (ho : okDs [.i .i64] d) : ∃ n, r = rowI n ∧ okI n := by
  obtain ⟨n, d', rfl, w, ho⟩ := okDs_i ho
  obtain rfl := okDs_nil ho
  obtain ⟨u, us, rfl, r1, h⟩ := h.cons_inv
  obtain rfl := h.nil_inv
  obtain rfl := r1.i_inv
  exact ⟨n, rfl, wf64 w⟩
theorem row_S {r : List Value} {d : List D} (h : Reps H r d) (ho : okDs [.s] d) : ∃ t, r = rowS t ∧ t.length ≤ reachBytes := by
  obtain ⟨x, d', rfl, w, ho⟩ := okDs_s ho
  obtain rfl := okDs_nil ho
  obtain ⟨u, us, rfl, r1, h⟩ := h.cons_inv
  obtain rfl := h.nil_inv
  obtain rfl := r1.s_inv
  exact ⟨x.data.toList, by rw [rowS, strV_data], by rw [Array.length_toList]; exact w⟩
/-- A list of ints. -/
theorem arg_Is {v : Value} {d : List D} (wf : ∀ b, H.next ≤ b → H.get b = none) (h : ArgRep H false v d) (ho : okDs [.sl 8 1 [.i .i64]] d) : ∃ l : List Int, SlR H 1 v (l.map rowI) ∧ l.length ≤ maxLen ∧ ∀ n ∈ l, okI n := by
  obtain ⟨rows, s0, _, m0, r0⟩ := arg_sl wf h ho
  obtain ⟨l, rfl, p⟩ := rows_ofP (f := rowI) (P := okI) fun r hr => by obtain ⟨ds, q1, q2⟩ := r0 r hr; exact row_I q1 q2
  rw [List.length_map] at m0
  exact ⟨l, s0, m0, p⟩
theorem row_It {r : List Value} {d : List D} (wf : ∀ b, H.next ≤ b → H.get b = none) (h : Reps H r d) (ho : okDs [.i .i64, .i .i64, .s, .sl 8 1 [.i .i64], .sl 16 1 [.s]] d) : ∃ it, r = rowIt it ∧ OkIt H it := by
  obtain ⟨a, d', rfl, w1, ho⟩ := okDs_i ho
  obtain ⟨n, d', rfl, w2, ho⟩ := okDs_i ho
  obtain ⟨x, d', rfl, w3, ho⟩ := okDs_s ho
  obtain ⟨y1, d', rfl, w4, ho⟩ := okDs_sl ho
  obtain ⟨y2, d', rfl, w5, ho⟩ := okDs_sl ho
  obtain rfl := okDs_nil ho
  obtain ⟨u1, us1, rfl, r1, h⟩ := h.cons_inv
  obtain ⟨u2, us2, rfl, r2, h⟩ := h.cons_inv
  obtain ⟨u3, us3, rfl, r3, h⟩ := h.cons_inv
  obtain ⟨u4, us4, rfl, r4, h⟩ := h.cons_inv
  obtain ⟨u5, us5, rfl, r5, h⟩ := h.cons_inv
  obtain rfl := h.nil_inv
  obtain rfl := r1.i_inv
  obtain rfl := r2.i_inv
  obtain rfl := r3.s_inv
  obtain ⟨rows1, s1, _, _, q1⟩ := rep_sl wf r4 w4
  obtain ⟨l1, rfl, p1⟩ := rows_ofP (f := rowI) (P := okI) fun r hr => by obtain ⟨ds, q, q'⟩ := q1 r hr; exact row_I q q'
  obtain ⟨rows2, s2, _, _, q2⟩ := rep_sl wf r5 w5
  obtain ⟨l2, rfl, p2⟩ := rows_ofP (f := rowS) (P := fun t => t.length ≤ reachBytes) fun r hr => by obtain ⟨ds, q, q'⟩ := q2 r hr; exact row_S q q'
  exact ⟨⟨a, n, x.data.toList, u4, u5, l1, l2⟩, by rw [rowIt, strV_data], wf64 w2, p1, s1, s2⟩
theorem arg_Its {v : Value} {d : List D} (wf : ∀ b, H.next ≤ b → H.get b = none) (h : ArgRep H false v d) (ho : okDs [.sl 80 5 [.i .i64, .i .i64, .s, .sl 8 1 [.i .i64], .sl 16 1 [.s]]] d) :
    ∃ l : List ItD, SlR H 5 v (l.map rowIt) ∧ ∀ it ∈ l, OkIt H it := by
  obtain ⟨rows, s0, _, m0, r0⟩ := arg_sl wf h ho
  obtain ⟨l, rfl, p⟩ := rows_ofP (f := rowIt) (P := OkIt H) fun r hr => by obtain ⟨ds, q1, q2⟩ := r0 r hr; exact row_It wf q1 q2
  exact ⟨l, s0, p⟩
theorem arg_It {v : Value} {d : List D} (wf : ∀ b, H.next ≤ b → H.get b = none) (h : ArgRep H true v d) (ho : okDs [.i .i64, .i .i64, .s, .sl 8 1 [.i .i64], .sl 16 1 [.s]] d) : ∃ it, v = itV it ∧ OkIt H it := by
  obtain ⟨us, rfl, h⟩ := h
  obtain ⟨it, e, p⟩ := row_It wf h ho
  refine ⟨it, ?_, p⟩
  cases us; simp [rowIt] at e; subst e; rfl

end
end Go.Proofs.YtkbojgebfndbkaaI
