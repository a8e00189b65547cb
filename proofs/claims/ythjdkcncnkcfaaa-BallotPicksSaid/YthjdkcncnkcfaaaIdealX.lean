/- Plain laws that walks need: whole numbers, slices' rows. -/
import Derived.Test.YthjdkcncnkcfaaaIdealW
namespace Go.Proofs.YthjdkcncnkcfaaaI
set_option linter.unusedSimpArgs false
set_option linter.unusedVariables false
open Go

theorem wrap64 {n : Int} (h : -9223372036854775808 ≤ n) (k : n < 9223372036854775808) : IntKind.i64.wrap n = n := by
  have e1 : (2 ^ IntKind.i64.bits : Int) = 18446744073709551616 := by decide
  have e2 : (2 ^ (IntKind.i64.bits - 1) : Int) = 9223372036854775808 := by decide
  unfold IntKind.wrap
  simp only [e1, e2, IntKind.signed, Bool.true_and]
  by_cases hn : 0 ≤ n
  · have : n % 18446744073709551616 = n := by omega
    rw [this]
    simp only [ge_iff_le]
    rw [if_neg (by simp; omega)]
  · have : n % 18446744073709551616 = n + 18446744073709551616 := by omega
    rw [this, if_pos (by simp; omega)]
    omega

theorem wf64 {n : Int} (h : (Lit.int .i64 n).wf = true) : -9223372036854775808 ≤ n ∧ n < 9223372036854775808 := by
  simp only [Lit.wf, Bool.and_eq_true, decide_eq_true_eq] at h
  have e1 : IntKind.i64.min = -9223372036854775808 := by decide
  have e2 : IntKind.i64.max = 9223372036854775807 := by decide
  omega

/-- A slice of rows, each of so many cells. -/
def SlR (H : IHeap) (size : Nat) (v : Value) (rows : List (List Value)) : Prop :=
  ∃ a cap, v = .slice a rows.length cap ∧ (rows ≠ [] → ∃ b o cs ro, a = some ⟨b, o, none⟩ ∧ b < H.next ∧ H.get b = some (.cells cs ro) ∧
    ∀ i r, rows[i]? = some r → r.length = size ∧ (cs.drop (o + i * size)).take size = r ∧ o + i * size + size ≤ cs.length)

theorem SlR.le {H H' : IHeap} {size : Nat} {v : Value} {rows : List (List Value)} (h : SlR H size v rows) (hl : H.le H') : SlR H' size v rows := by
  obtain ⟨a, cap, h1, h2⟩ := h
  refine ⟨a, cap, h1, fun hne => ?_⟩
  obtain ⟨b, o, cs, ro, h3, h4, h5, h6⟩ := h2 hne
  exact ⟨b, o, cs, ro, h3, Nat.lt_of_lt_of_le h4 hl.next, by rw [hl.get b h4]; exact h5, h6⟩

/-- A part of a row. -/
theorem win {cs r : List Value} {p n : Nat} (h : (cs.drop p).take n = r) (k m : Nat) (hk : k + m ≤ n) : (cs.drop (p + k)).take m = (r.drop k).take m := by
  subst h
  rw [List.drop_take, List.take_take, List.drop_drop, Nat.min_eq_left (by omega)]

end Go.Proofs.YthjdkcncnkcfaaaI
