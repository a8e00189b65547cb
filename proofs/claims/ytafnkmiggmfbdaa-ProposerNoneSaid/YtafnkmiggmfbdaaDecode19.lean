/- Lists of votes as arguments. -/
import Derived.Test.YtafnkmiggmfbdaaProK
import Derived.Test.YtafnkmiggmfbdaaDecode
namespace Go.Proofs.YtafnkmiggmfbdaaI
set_option linter.unusedSimpArgs false
set_option linter.unusedVariables false
open Go
section
variable {H : IHeap}
theorem row_Vote {r : List Value} {d : List D} (h : Reps H r d) (ho : okDs [.i .i64, .i .i64, .i .i64, .s] d) : ∃ v, r = rowV v := by
  obtain ⟨x1, d', rfl, w1, ho⟩ := okDs_i ho
  obtain ⟨x2, d', rfl, w2, ho⟩ := okDs_i ho
  obtain ⟨x3, d', rfl, w3, ho⟩ := okDs_i ho
  obtain ⟨t, d', rfl, w6, ho⟩ := okDs_s ho
  obtain rfl := okDs_nil ho
  obtain ⟨u1, us1, rfl, r1, h⟩ := h.cons_inv
  obtain ⟨u2, us2, rfl, r2, h⟩ := h.cons_inv
  obtain ⟨u3, us3, rfl, r3, h⟩ := h.cons_inv
  obtain ⟨u4, us4, rfl, r4, h⟩ := h.cons_inv
  obtain rfl := h.nil_inv
  obtain rfl := r1.i_inv
  obtain rfl := r2.i_inv
  obtain rfl := r3.i_inv
  obtain rfl := r4.s_inv
  exact ⟨⟨x1, x2, x3, t⟩, rfl⟩
theorem arg_Votes {v : Value} {d : List D} (wf : ∀ b, H.next ≤ b → H.get b = none) (h : ArgRep H false v d) (ho : okDs [.sl 40 4 [.i .i64, .i .i64, .i .i64, .s]] d) : ∃ l : List VoteD, SlR H 4 v (l.map rowV) := by
  obtain ⟨rows, s0, _, m0, r0⟩ := arg_sl wf h ho
  obtain ⟨l, rfl⟩ := rows_of (f := rowV) fun r hr => by obtain ⟨ds, q1, q2⟩ := r0 r hr; exact row_Vote q1 q2
  exact ⟨l, s0⟩
omit H in
theorem lists_of {Q : Value → List VoteD → Prop} : ∀ {rows : List (List Value)}, (∀ r ∈ rows, ∃ x l, r = [x] ∧ Q x l) →
    ∃ (us : List Value) (ls : List (List VoteD)), rows = (us.map fun x => [x]) ∧ us.length = ls.length ∧ ∀ (i : Nat) (x : Value) (l : List VoteD), us[i]? = some x → ls[i]? = some l → Q x l
  | [], _ => ⟨[], [], rfl, rfl, by simp⟩
  | r :: rows, h => by
    obtain ⟨x, l, rfl, hq⟩ := h r (by simp)
    obtain ⟨us, ls, rfl, h2, h3⟩ := lists_of (rows := rows) fun x hx => h x (by simp [hx])
    refine ⟨x :: us, l :: ls, rfl, by simp [h2], fun i y m a b => ?_⟩
    cases i with
    | zero => simp at a b; subst a; subst b; exact hq
    | succ i => exact h3 i y m (by simpa using a) (by simpa using b)
theorem arg_LL {v : Value} {d : List D} (wf : ∀ b, H.next ≤ b → H.get b = none) (h : ArgRep H false v d) (ho : okDs [.sl 24 1 [.sl 40 4 [.i .i64, .i .i64, .i .i64, .s]]] d) : ∃ ls : List (List VoteD), RepLL H v ls ∧ (ls.length : Int) < 9223372036854775808 := by
  obtain ⟨rows, s0, _, m0, r0⟩ := arg_sl wf h ho
  obtain ⟨us, ls, rfl, e1, e2⟩ := lists_of (Q := fun x l => SlR H 4 x (l.map rowV)) fun r hr => by
    obtain ⟨ds, q1, q2⟩ := r0 r hr
    obtain ⟨x, d', rfl, q3, q4⟩ := okDs_sl q2
    obtain rfl := okDs_nil q4
    obtain ⟨u, us, rfl, q5, q6⟩ := q1.cons_inv
    obtain rfl := q6.nil_inv
    obtain ⟨l, hl⟩ := arg_Votes wf (v := u) (d := [x]) (Reps.one q5) q2
    exact ⟨u, l, rfl, hl⟩
  refine ⟨ls, ⟨us, e1, s0, e2⟩, ?_⟩
  rw [List.length_map, e1] at m0
  have : maxLen = 9223372036854775807 := rfl
  omega
end
end Go.Proofs.YtafnkmiggmfbdaaI
