/- Slices as they may be cut and copied. -/
import Derived.Test.YtafnkmiggmfbdaaSlices
namespace Go.Proofs.YtafnkmiggmfbdaaI
set_option linter.unusedSimpArgs false
set_option linter.unusedVariables false
open Go

/-- A slice whose room is known, or not known at all. -/
def SlW (H : IHeap) (size : Nat) (v : Value) (rows : List (List Value)) : Prop :=
  SlR H size v rows ∧ ∃ a cap, v = .slice a rows.length cap ∧ (a = none ∨ ∃ b o, a = some ⟨b, o, none⟩) ∧ ((cap < UNK ∧ rows.length ≤ cap) ∨ (cap = UNK + size ∧ a ≠ none))

theorem rows_flat {size : Nat} {cs : List Value} : ∀ (rows : List (List Value)) (o : Nat), o ≤ cs.length → (∀ i r, rows[i]? = some r → r.length = size ∧ (cs.drop (o + i * size)).take size = r ∧ o + i * size + size ≤ cs.length) →
    (cs.drop o).take (rows.length * size) = rows.flatten ∧ o + rows.length * size ≤ cs.length
  | [], o, ho, _ => by simp; exact ho
  | r :: rows, o, ho, h => by
    have h0 := h 0 r (by simp)
    simp only [Nat.zero_mul, Nat.add_zero] at h0
    have ih := rows_flat rows (o + size) h0.2.2 fun i x hx => by
      have := h (i + 1) x (by simpa using hx)
      rw [Nat.add_mul, Nat.one_mul] at this
      have e : o + (i * size + size) = o + size + i * size := by omega
      rw [e] at this; exact this
    simp only [List.length_cons, List.flatten_cons]
    have e2 : (rows.length + 1) * size = size + rows.length * size := by rw [Nat.add_mul]; omega
    rw [e2]
    refine ⟨?_, by omega⟩
    rw [List.take_add, h0.2.1, List.drop_drop, ih.1]

theorem SlW.first {H : IHeap} {size : Nat} {v : Value} {rows : List (List Value)} (h : SlW H size v rows) (h0 : 0 < size) : firstI H size rows.length v = some rows.flatten := by
  obtain ⟨⟨a', cap', e, h2⟩, a, cap, rfl, ha, hc⟩ := h
  simp only [Value.slice.injEq] at e
  obtain ⟨rfl, -, rfl⟩ := e
  by_cases hr : rows = []
  · subst hr
    rcases ha with rfl | ⟨b, o, rfl⟩
    · rfl
    · simp [firstI]
  · obtain ⟨b, o, cs, ro, rfl, hb, hget, hrow⟩ := h2 hr
    have hl : 0 < rows.length := List.length_pos_iff.2 hr
    obtain ⟨r0, hr0⟩ : ∃ r, rows[0]? = some r := ⟨rows[0], by simp⟩
    have := (hrow 0 r0 hr0).2.2
    obtain ⟨e1, e2⟩ := rows_flat rows o (by omega) hrow
    have hp : 0 < rows.length * size := Nat.mul_pos hl h0
    simp only [firstI, IHeap.loadL, hget]
    rw [if_neg (by omega), if_pos e2, e1]

theorem SlW.le {H H' : IHeap} {size : Nat} {v : Value} {rows : List (List Value)} (h : SlW H size v rows) (hl : H.le H') : SlW H' size v rows := ⟨h.1.le hl, h.2⟩
theorem SlW.len {H : IHeap} {size : Nat} {v : Value} {rows : List (List Value)} (h : SlW H size v rows) : ∃ a cap, v = .slice a rows.length cap := by obtain ⟨_, a, cap, e, _⟩ := h; exact ⟨a, cap, e⟩
theorem Tight.slw {H : IHeap} {size : Nat} {v : Value} {rows : List (List Value)} (h : Tight H size v rows) : SlW H size v rows := by
  refine ⟨h.slr, ?_⟩
  obtain ⟨_, blk, o, _, _, _, h2, rfl, _⟩ := h
  exact ⟨_, _, rfl, .inr ⟨blk, o, rfl⟩, .inl ⟨h2, Nat.le_refl _⟩⟩
theorem Own.slw {H : IHeap} {B size : Nat} {v : Value} {rows : List (List Value)} (h : Own H B size v rows) : SlW H size v rows := by
  refine ⟨h.slr, ?_⟩
  obtain ⟨_, blk, _, _, rfl, _⟩ := h
  exact ⟨_, _, rfl, .inr ⟨blk, 0, rfl⟩, .inr ⟨rfl, by simp⟩⟩
theorem SlW.nil (H : IHeap) (size : Nat) : SlW H size (.slice none 0 0) [] := ⟨⟨none, 0, rfl, fun h => absurd rfl h⟩, none, 0, rfl, .inl rfl, .inl ⟨by unfold UNK; omega, Nat.le_refl _⟩⟩
theorem Grow.slw {H : IHeap} {B size : Nat} {v : Value} {rows : List (List Value)} (h : Grow H B size v rows) : SlW H size v rows := by
  rcases h with ⟨rfl, rfl⟩ | h
  · exact SlW.nil H size
  · exact h.slw

theorem addr_add (b o n : Nat) : Option.map (fun x : Addr => x.add n) (some ⟨b, o, none⟩) = some ⟨b, o + n, none⟩ := by simp [Addr.add]
/-- A part of a slice. -/
theorem SlW.cut {H : IHeap} {size n cap i j : Nat} {a : Option Addr} {rows : List (List Value)} (h : SlW H size (.slice a n cap) rows) (h0 : 0 < size) (hij : i ≤ j) (hj : j ≤ rows.length) :
    ∃ v', sliceI H size a n cap i j none = some v' ∧ SlW H size v' ((rows.drop i).take (j - i)) := by
  obtain ⟨⟨a', cap', e, h2⟩, a'', cap'', e', ha, hc⟩ := h
  simp only [Value.slice.injEq] at e e'
  obtain ⟨rfl, rfl, rfl⟩ := e
  obtain ⟨rfl, -, rfl⟩ := e'
  have hlen : ((rows.drop i).take (j - i)).length = j - i := by simp; omega
  have hrows : ∀ (b o : Nat) (cs : List Value) (ro : Bool), b < H.next → H.get b = some (.cells cs ro) → (∀ k r, rows[k]? = some r → r.length = size ∧ (cs.drop (o + k * size)).take size = r ∧ o + k * size + size ≤ cs.length) → ∀ cap2,
      SlR H size (.slice (some ⟨b, o + i * size, none⟩) (j - i) cap2) ((rows.drop i).take (j - i)) := by
    intro b o cs ro hb hg hr cap2
    refine ⟨_, cap2, by rw [hlen], fun _ => ⟨b, o + i * size, cs, ro, rfl, hb, hg, fun k r hk => ?_⟩⟩
    rw [List.getElem?_take] at hk
    split at hk
    · rw [List.getElem?_drop] at hk
      have := hr (i + k) r hk
      rw [Nat.add_mul] at this
      have e : o + (i * size + k * size) = o + i * size + k * size := by omega
      rw [e] at this; exact this
    · cases hk
  rcases hc with ⟨hc1, hc2⟩ | ⟨hc1, hc2⟩
  · have hz : (if cap = i then a else a.map (·.add (i * size))) = none ∨ ∃ b o, (if cap = i then a else a.map (·.add (i * size))) = some ⟨b, o, none⟩ := by
      rcases ha with rfl | ⟨b, o, rfl⟩
      · left; split <;> rfl
      · right; split
        · exact ⟨b, o, rfl⟩
        · exact ⟨b, o + i * size, addr_add _ _ _⟩
    refine ⟨.slice (if cap = i then a else a.map (·.add (i * size))) (j - i) (cap - i), ?_, ?_, _, _, by rw [hlen], hz, .inl ⟨by omega, by rw [hlen]; omega⟩⟩
    · simp only [sliceI, hc1, if_true, Option.getD_none]
      rw [if_pos ⟨by omega, Nat.le_refl _⟩]
    · by_cases hr : rows = []
      · subst hr
        simp only [List.length_nil, Nat.le_zero_eq] at hj
        subst hj
        refine ⟨_, _, by rw [hlen], fun h => ?_⟩
        simp at h
      · obtain ⟨b, o, cs, ro, rfl, hb, hget, hrow⟩ := h2 hr
        by_cases hci : cap = i
        · have hji : j - i = 0 := by omega
          rw [hji]
          exact ⟨_, _, rfl, fun h => by simp at h⟩
        · rw [if_neg hci, addr_add]
          exact hrows b o cs ro hb hget hrow _
  · obtain ⟨b, o, rfl⟩ := ha.resolve_left hc2
    subst hc1
    have hU : ¬ (UNK + size < UNK) := by omega
    refine ⟨.slice (some ⟨b, o + i * size, none⟩) (j - i) (UNK + size), ?_, ?_, _, _, by rw [hlen], .inr ⟨b, _, rfl⟩, .inr ⟨rfl, by simp⟩⟩
    · simp only [sliceI, hU, if_false, Option.getD_none]
      rw [if_pos (by simp [h0, hj])]
    · by_cases hr : rows = []
      · subst hr
        refine ⟨_, _, by rw [hlen], fun h => ?_⟩
        simp at h
      · obtain ⟨b', o', cs, ro, e, hb, hget, hrow⟩ := h2 hr
        simp only [Option.some.injEq, Addr.mk.injEq, and_true] at e
        obtain ⟨rfl, rfl⟩ := e
        exact hrows _ _ cs ro hb hget hrow _

/-- A new nil slice to which another one's rows are appended. -/
theorem copied {H : IHeap} {size bytes : Nat} {u : Value} {rows : List (List Value)} (h : SlW H size u rows) (h0 : 0 < size) (h1 : 0 < bytes) (hone : rows.flatten.all one1 = true) (hn : rows.length * bytes ≤ 140737488355328) (hl : rows.length ≤ 140737488355328) {B : Nat} {v : Value} {old : List (List Value)} (hv : Grow H B size v old) (hB : B ≤ H.next)
    (hn2 : (old.length + rows.length) * bytes ≤ 140737488355328) (hl2 : old.length + rows.length ≤ 140737488355328) :
    ∃ v' H', appendI H size bytes v rows.length rows.flatten = some (v', H') ∧ Grow H' B size v' (old ++ rows) ∧ IHeap.keep B H H' := by
  by_cases hr : rows = []
  · subst hr
    refine ⟨v, H, ?_, by simpa using hv, IHeap.keep_refl _ _⟩
    exact appendI_zero hv.buf h0 h1 (by simpa using hn2) (by simpa using hl2)
  · have hsz : ∀ r ∈ rows, r.length = size := by
      obtain ⟨⟨a', cap', e, h2⟩, _⟩ := h
      obtain ⟨b, o, cs, ro, rfl, hb, hget, hrow⟩ := h2 hr
      intro r hm
      obtain ⟨i, hi⟩ := List.getElem?_of_mem hm
      exact (hrow i r hi).1
    obtain ⟨v', H', e1, e2, e3⟩ := hv.buf.append hB h0 h1 hn2 hl2 hsz hone hr
    exact ⟨v', H', e1, .inr e2, e3⟩

/-- Not among some objects. -/
def Off (v : Value) (S : List Nat) : Prop := ∀ b o n c, v = .slice (some ⟨b, o, none⟩) n c → b ∉ S
theorem SlW.upd {H H' : IHeap} {S : List Nat} {size : Nat} {v : Value} {rows : List (List Value)} (h : SlW H size v rows) (ho : Off v S) (hu : IHeap.upd S H H') : SlW H' size v rows := by
  obtain ⟨⟨a, cap, rfl, h2⟩, h3⟩ := h
  refine ⟨⟨a, cap, rfl, fun hr => ?_⟩, h3⟩
  obtain ⟨b, o, cs, ro, rfl, hb, hget, hrow⟩ := h2 hr
  exact ⟨b, o, cs, ro, rfl, Nat.lt_of_lt_of_le hb hu.next, (hu.get b hb (ho b o _ _ rfl)).trans hget, hrow⟩

end Go.Proofs.YtafnkmiggmfbdaaI
