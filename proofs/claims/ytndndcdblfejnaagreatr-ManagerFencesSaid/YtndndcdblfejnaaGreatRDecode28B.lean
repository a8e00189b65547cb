/- Slices as arguments, their room known. / Groups and deeds as arguments. -/
import Derived.Test.YtndndcdblfejnaaGreatRDecode28
import Derived.Test.YtndndcdblfejnaaGreatRMaps
import Derived.Test.YtndndcdblfejnaaGreatRFarM
import Derived.Test.YtndndcdblfejnaaGreatRMgZ
namespace Go.Proofs.YtndndcdblfejnaaGreatRI
set_option linter.unusedSimpArgs false
set_option linter.unusedVariables false
open Go
section
variable {H : IHeap}
theorem rep_cap {v : Value} {by' size : Nat} {e : List Sh} {x : D} (h : Rep H v x) (hx : okD (.sl by' size e) x) : ∃ a n cap, v = .slice a n cap ∧ (a = none ∨ ∃ b o, a = some ⟨b, o, none⟩) ∧ cap < UNK ∧ n ≤ cap := by
  cases h with
  | b x => simp [okD] at hx
  | i k n => simp [okD] at hx
  | s x => simp [okD] at hx
  | nil => exact ⟨_, _, _, rfl, .inl rfl, by unfold UNK; omega, Nat.le_refl _⟩
  | z id o => exact ⟨_, _, _, rfl, .inr ⟨_, _, rfl⟩, by unfold UNK; omega, Nat.le_refl _⟩
  | sl id len es vs hne hunk hget hvl hreps =>
    simp only [okD] at hx
    exact ⟨_, _, _, rfl, .inr ⟨_, _, rfl⟩, hunk, hx.1⟩
theorem rep_slw {v : Value} {by' size : Nat} {e : List Sh} {x : D} (wf : ∀ b, H.next ≤ b → H.get b = none) (h : Rep H v x) (hx : okD (.sl by' size e) x) :
    ∃ rows : List (List Value), SlW H size v rows ∧ rows.length * by' ≤ reachBytes ∧ rows.length ≤ maxLen ∧ ∀ r ∈ rows, ∃ ds, Reps H r ds ∧ okDs e ds := by
  obtain ⟨rows, s0, m1, m2, r0⟩ := arg_sl wf (v := v) (d := [x]) (show Reps H [v] [x] from ⟨rfl, fun j u d h1 h2 => by
    cases j with
    | zero => simp at h1 h2; subst h1; subst h2; exact h
    | succ j => simp at h1⟩) (by simp only [okDs]; exact ⟨hx, trivial⟩)
  obtain ⟨a, n, cap, rfl, ha, hc1, hc2⟩ := rep_cap h hx
  have s0' := s0
  obtain ⟨a', cap', e', _⟩ := s0'
  simp only [Value.slice.injEq] at e'
  obtain ⟨rfl, rfl, rfl⟩ := e'
  exact ⟨rows, ⟨s0, _, _, rfl, ha, .inl ⟨hc1, hc2⟩⟩, m1, m2, r0⟩
theorem row_I {r : List Value} {d : List D} (h : Reps H r d) (ho : okDs [.i .i64] d) : ∃ n, r = rowI n := by
  obtain ⟨x1, d', rfl, w1, ho⟩ := okDs_i ho
  obtain rfl := okDs_nil ho
  obtain ⟨u1, us1, rfl, r1, h⟩ := h.cons_inv
  obtain rfl := h.nil_inv
  obtain rfl := r1.i_inv
  exact ⟨x1, rfl⟩
theorem rep_ints {v : Value} {x : D} (wf : ∀ b, H.next ≤ b → H.get b = none) (h : Rep H v x) (hx : okD (.sl 8 1 [.i .i64]) x) : ∃ l : List Int, SlW H 1 v (l.map rowI) := by
  obtain ⟨rows, s0, _, m0, r0⟩ := rep_slw wf h hx
  obtain ⟨l, rfl⟩ := rows_of (f := rowI) fun r hr => by obtain ⟨ds, q1, q2⟩ := r0 r hr; exact row_I q1 q2
  exact ⟨l, s0⟩
end
end Go.Proofs.YtndndcdblfejnaaGreatRI
namespace Go.Proofs.YtndndcdblfejnaaGreatRI
set_option linter.unusedSimpArgs false
set_option linter.unusedVariables false
open Go
section
variable {H : IHeap}
theorem row_DG {r : List Value} {d : List D} (h : Reps H r d) (ho : okDs [.i .i64, .i .i64, .i .i64, .i .i64, .i .i64, .i .i64, .i .i64, .i .i64, .s] d) : ∃ x : {x : DeedG // okX x.x}, r = rowDG x.1 := by
  obtain ⟨x0, d', rfl, w0, ho⟩ := okDs_i ho
  obtain ⟨x1, d', rfl, w1, ho⟩ := okDs_i ho
  obtain ⟨x2, d', rfl, w2, ho⟩ := okDs_i ho
  obtain ⟨x3, d', rfl, w3, ho⟩ := okDs_i ho
  obtain ⟨x4, d', rfl, w4, ho⟩ := okDs_i ho
  obtain ⟨x5, d', rfl, w5, ho⟩ := okDs_i ho
  obtain ⟨x6, d', rfl, w6, ho⟩ := okDs_i ho
  obtain ⟨x7, d', rfl, w7, ho⟩ := okDs_i ho
  obtain ⟨t, d', rfl, wt, ho⟩ := okDs_s ho
  obtain rfl := okDs_nil ho
  obtain ⟨u0, us0, rfl, r0, h⟩ := h.cons_inv
  obtain ⟨u1, us1, rfl, r1, h⟩ := h.cons_inv
  obtain ⟨u2, us2, rfl, r2, h⟩ := h.cons_inv
  obtain ⟨u3, us3, rfl, r3, h⟩ := h.cons_inv
  obtain ⟨u4, us4, rfl, r4, h⟩ := h.cons_inv
  obtain ⟨u5, us5, rfl, r5, h⟩ := h.cons_inv
  obtain ⟨u6, us6, rfl, r6, h⟩ := h.cons_inv
  obtain ⟨u7, us7, rfl, r7, h⟩ := h.cons_inv
  obtain ⟨ut, ust, rfl, rt, h⟩ := h.cons_inv
  obtain rfl := h.nil_inv
  obtain rfl := r0.i_inv
  obtain rfl := r1.i_inv
  obtain rfl := r2.i_inv
  obtain rfl := r3.i_inv
  obtain rfl := r4.i_inv
  obtain rfl := r5.i_inv
  obtain rfl := r6.i_inv
  obtain rfl := r7.i_inv
  obtain rfl := rt.s_inv
  exact ⟨⟨⟨⟨x0, x1, x2, x3, x4, x5, x6, x7⟩, t⟩, i64_ok w0, i64_ok w1, i64_ok w2, i64_ok w3, i64_ok w4, i64_ok w5, i64_ok w6, i64_ok w7⟩, rfl⟩
theorem arg_DeedsG {v : Value} {d : List D} (wf : ∀ b, H.next ≤ b → H.get b = none) (h : ArgRep H false v d) (ho : okDs [.sl 80 9 [.i .i64, .i .i64, .i .i64, .i .i64, .i .i64, .i .i64, .i .i64, .i .i64, .s]] d) : ∃ l : List DeedG, SlR H 9 v (l.map rowDG) ∧ ∀ x ∈ l, okX x.x := by
  obtain ⟨rows, s0, _, m0, r0⟩ := arg_sl wf h ho
  obtain ⟨l, rfl⟩ := rows_of (f := fun x : {x : DeedG // okX x.x} => rowDG x.1) fun r hr => by obtain ⟨ds, q1, q2⟩ := r0 r hr; exact row_DG q1 q2
  refine ⟨l.map (·.1), by rw [List.map_map]; exact s0, fun x hx => ?_⟩
  obtain ⟨y, _, rfl⟩ := List.mem_map.1 hx
  exact y.2
theorem arg_Group {v : Value} {d : List D} (wf : ∀ b, H.next ≤ b → H.get b = none) (h : ArgRep H true v d) (ho : okDs [.sl 8 1 [.i .i64], .sl 8 1 [.i .i64]] d) :
    ∃ u1 u2, ∃ L P : List Int, v = .agg #[u1, u2] ∧ SlW H 1 u1 (L.map rowI) ∧ SlW H 1 u2 (P.map rowI) := by
  obtain ⟨us, rfl, h⟩ := h
  obtain ⟨x1, d', rfl, w1, ho⟩ := okDs_sl ho
  obtain ⟨x2, d', rfl, w2, ho⟩ := okDs_sl ho
  obtain rfl := okDs_nil ho
  obtain ⟨us⟩ := us
  obtain ⟨u1, us1, e1, r1, h⟩ := h.cons_inv
  obtain ⟨u2, us2, e2, r2, h⟩ := h.cons_inv
  obtain rfl := h.nil_inv
  subst e2
  simp only at e1
  subst e1
  obtain ⟨L, s1⟩ := rep_ints wf r1 w1
  obtain ⟨P, s2⟩ := rep_ints wf r2 w2
  exact ⟨u1, u2, L, P, rfl, s1, s2⟩
end
end Go.Proofs.YtndndcdblfejnaaGreatRI
