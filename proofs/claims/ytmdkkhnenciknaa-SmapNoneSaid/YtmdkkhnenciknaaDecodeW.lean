/- Slices as arguments, their room known. -/
import Derived.Test.YtmdkkhnenciknaaDecode
import Derived.Test.YtmdkkhnenciknaaSlW
import Derived.Test.YtmdkkhnenciknaaMemS
namespace Go.Proofs.YtmdkkhnenciknaaI
set_option linter.unusedSimpArgs false
set_option linter.unusedVariables false
open Go
section
variable {H : IHeap}
theorem rep_cap {v : Value} {by' size : Nat} {e : List Sh} {x : D} (h : Rep H v x) (hx : okD (.sl by' size e) x) : ∃ a n cap, v = .slice a n cap ∧ (a = none ∨ ∃ b o, a = some ⟨b, o, none⟩) ∧ cap < UNK ∧ n ≤ cap := by
  cases h with
  | b x => simp [okD] at hx
  | i k n => simp [okD] at hx
  | s x => simp [okD] at hx
  | nil => exact ⟨_, _, _, rfl, .inl rfl, by unfold UNK; omega, Nat.le_refl _⟩
  | z id o => exact ⟨_, _, _, rfl, .inr ⟨_, _, rfl⟩, by unfold UNK; omega, Nat.le_refl _⟩
  | sl id len es vs hne hunk hget hvl hreps =>
    simp only [okD] at hx
    exact ⟨_, _, _, rfl, .inr ⟨_, _, rfl⟩, hunk, hx.1⟩
theorem rep_slw {v : Value} {by' size : Nat} {e : List Sh} {x : D} (wf : ∀ b, H.next ≤ b → H.get b = none) (h : Rep H v x) (hx : okD (.sl by' size e) x) :
    ∃ rows : List (List Value), SlW H size v rows ∧ rows.length * by' ≤ reachBytes ∧ rows.length ≤ maxLen ∧ ∀ r ∈ rows, ∃ ds, Reps H r ds ∧ okDs e ds := by
  obtain ⟨rows, s0, m1, m2, r0⟩ := arg_sl wf (v := v) (d := [x]) (show Reps H [v] [x] from ⟨rfl, fun j u d h1 h2 => by
    cases j with
    | zero => simp at h1 h2; subst h1; subst h2; exact h
    | succ j => simp at h1⟩) (by simp only [okDs]; exact ⟨hx, trivial⟩)
  obtain ⟨a, n, cap, rfl, ha, hc1, hc2⟩ := rep_cap h hx
  have s0' := s0
  obtain ⟨a', cap', e', _⟩ := s0'
  simp only [Value.slice.injEq] at e'
  obtain ⟨rfl, rfl, rfl⟩ := e'
  exact ⟨rows, ⟨s0, _, _, rfl, ha, .inl ⟨hc1, hc2⟩⟩, m1, m2, r0⟩
theorem row_I {r : List Value} {d : List D} (h : Reps H r d) (ho : okDs [.i .i64] d) : ∃ n, r = rowI n := by
  obtain ⟨x1, d', rfl, w1, ho⟩ := okDs_i ho
  obtain rfl := okDs_nil ho
  obtain ⟨u1, us1, rfl, r1, h⟩ := h.cons_inv
  obtain rfl := h.nil_inv
  obtain rfl := r1.i_inv
  exact ⟨x1, rfl⟩
theorem rep_ints {v : Value} {x : D} (wf : ∀ b, H.next ≤ b → H.get b = none) (h : Rep H v x) (hx : okD (.sl 8 1 [.i .i64]) x) : ∃ l : List Int, SlW H 1 v (l.map rowI) := by
  obtain ⟨rows, s0, _, m0, r0⟩ := rep_slw wf h hx
  obtain ⟨l, rfl⟩ := rows_of (f := rowI) fun r hr => by obtain ⟨ds, q1, q2⟩ := r0 r hr; exact row_I q1 q2
  exact ⟨l, s0⟩
end
end Go.Proofs.YtmdkkhnenciknaaI
