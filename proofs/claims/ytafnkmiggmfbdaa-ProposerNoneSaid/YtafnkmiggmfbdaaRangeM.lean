/- Ranges over maps: a step, and where they stand. -/
import Derived.Test.YtafnkmiggmfbdaaMaps
namespace Go.Proofs.YtafnkmiggmfbdaaI
set_option linter.unusedSimpArgs false
set_option linter.unusedVariables false
open Go

/-- Those that are left. -/
def leftM (es : List MapEntry) (seen : List Nat) : Nat := (es.filter fun e => decide (e.born ∉ seen)).length
theorem filter_lt {α : Type} {p q : α → Bool} (hpq : ∀ x, q x = true → p x = true) : ∀ {l : List α} {e : α}, e ∈ l → p e = true → q e = false → (l.filter q).length < (l.filter p).length
  | x :: l, e, he, h1, h2 => by
    have mono : ∀ l : List α, (l.filter q).length ≤ (l.filter p).length := by
      intro l
      induction l with
      | nil => simp
      | cons y l ih =>
        simp only [List.filter_cons]
        cases hq : q y with
        | true => rw [hpq y hq]; simp only [if_true, List.length_cons]; omega
        | false => cases hp : p y <;> simp only [Bool.false_eq_true, if_false, if_true, List.length_cons] <;> omega
    simp only [List.filter_cons]
    rcases List.mem_cons.1 he with rfl | he
    · rw [h1, h2]
      simp only [if_true, Bool.false_eq_true, if_false, List.length_cons]
      have := mono l; omega
    · have ih := filter_lt hpq he h1 h2
      cases hq : q x with
      | true => rw [hpq x hq]; simp only [if_true, List.length_cons]; omega
      | false => cases hp : p x <;> simp only [Bool.false_eq_true, if_false, if_true, List.length_cons] <;> omega
  | [], _, he, _, _ => by simp at he
theorem leftM_lt {es : List MapEntry} {seen : List Nat} {e : MapEntry} (he : e ∈ es) (hn : e.born ∉ seen) : leftM es (seen ++ [e.born]) < leftM es seen := by
  unfold leftM
  refine filter_lt (fun x hx => ?_) he (by simpa using hn) (by simp)
  simp only [List.mem_append, not_or, decide_eq_true_eq] at hx ⊢
  exact hx.1

theorem next_of {H : IHeap} {it r clock : Nat} {es : List MapEntry} {seen : List Nat} {K : Value → IHeap → Prop} (h1 : H.get it = some (.iter (some r) clock seen clock)) (h2 : H.get r = some (.map es clock)) (hb : BornOk es clock)
    (hend : (∀ e ∈ es, e.born ∈ seen) → K (.tuple #[.bool false]) H)
    (hgo : ∀ e ∈ es, e.born ∉ seen → K (.tuple #[.bool true, e.key, e.val]) (H.set it (.iter (some r) clock (seen ++ [e.born]) clock))) : nextI2 H K (.pointer (some ⟨it, 0, none⟩)) := by
  simp only [nextI2, h1, h2]
  refine ⟨?_, fun h => hend fun e he => ?_, hgo⟩
  · cases es with
    | nil => exact .inr (.inl rfl)
    | cons e es => exact .inr (.inr ⟨e, by simp, hb.2 e (by simp)⟩)
  · refine Classical.byContradiction fun hn => ?_
    have h3 := h e he hn
    have h4 := hb.2 e he
    omega

theorem entry_of {H : IHeap} {it r clock since : Nat} {es : List MapEntry} {seen : List Nat} {e : MapEntry} {K : Value → IHeap → Prop} (h1 : H.get it = some (.iter (some r) since (seen ++ [e.born]) clock)) (h2 : H.get r = some (.map es clock)) (hb : BornOk es clock)
    (he : e ∈ es) (hK : K (.tuple #[e.key, e.val]) H) : entryI H K (.pointer (some ⟨it, 0, none⟩)) := by
  simp only [entryI, h1, h2]
  refine ⟨trivial, seen, e.born, rfl, e, ?_, hK⟩
  have hn := hb.1
  clear hK h1 h2 hb
  induction es with
  | nil => simp at he
  | cons x es ih =>
    rw [List.find?_cons]
    simp only [List.map_cons, List.nodup_cons] at hn
    rcases List.mem_cons.1 he with rfl | he
    · simp
    · have : x.born ≠ e.born := fun q => hn.1 (q ▸ List.mem_map.2 ⟨e, he, rfl⟩)
      have hf : (x.born == e.born) = false := by simpa using this
      rw [hf]
      exact ih he hn.2

section
variable {κ α : Type} [DecidableEq κ] {f : κ → Value} {g : α → Value} {H : IHeap} {r : Nat} {m : κ → Option α}
theorem alGet_mem {l : List (κ × α)} {k : κ} {a : α} (h : alGet l k = some a) : (k, a) ∈ l := by
  unfold alGet at h
  simp only [Option.map_eq_some_iff] at h
  obtain ⟨p, hp, rfl⟩ := h
  have h1 := List.find?_some hp
  have h2 := List.mem_of_find?_eq_some hp
  simp only [decide_eq_true_eq] at h1
  rw [← h1]; exact h2
theorem alGet_of {l : List (κ × α)} (hn : (l.map (·.1)).Nodup) {k : κ} {a : α} (h : (k, a) ∈ l) : alGet l k = some a := by
  induction l with
  | nil => simp at h
  | cons p l ih =>
    simp only [List.map_cons, List.nodup_cons] at hn
    rw [alGet_cons]
    rcases List.mem_cons.1 h with rfl | h
    · rw [if_pos rfl]
    · have hne : ¬ p.1 = k := fun e => hn.1 (by rw [e]; exact List.mem_map.2 ⟨_, h, rfl⟩)
      rw [if_neg hne, ih hn.2 h]
/-- A map's entries: those of the function. -/
theorem IsMap.entries (h : IsMap H r f g m) : ∃ es clock, H.get r = some (.map es clock) ∧ BornOk es clock ∧ (∀ e ∈ es, ∃ k a, e.key = f k ∧ e.val = g a ∧ m k = some a) ∧ ∀ k a, m k = some a → ∃ e ∈ es, e.key = f k ∧ e.val = g a := by
  obtain ⟨l, ⟨_, ⟨es, clock, h1, h2, h3⟩, hn⟩, hm⟩ := h
  refine ⟨es, clock, h1, h3, fun e he => ?_, fun k a hk => ?_⟩
  · have : (e.key, e.val) ∈ l.map fun p => (f p.1, g p.2) := by rw [← h2]; exact List.mem_map.2 ⟨e, he, rfl⟩
    obtain ⟨⟨k, a⟩, hp, hq⟩ := List.mem_map.1 this
    simp only [Prod.mk.injEq] at hq
    exact ⟨k, a, hq.1.symm, hq.2.symm, by rw [← hm]; exact alGet_of hn hp⟩
  · rw [← hm] at hk
    have h4 := alGet_mem hk
    have : (f k, g a) ∈ es.map fun e => (e.key, e.val) := by rw [h2]; exact List.mem_map.2 ⟨_, h4, rfl⟩
    obtain ⟨e, he, hq⟩ := List.mem_map.1 this
    simp only [Prod.mk.injEq] at hq
    exact ⟨e, he, hq.1, hq.2⟩
end

end Go.Proofs.YtafnkmiggmfbdaaI
