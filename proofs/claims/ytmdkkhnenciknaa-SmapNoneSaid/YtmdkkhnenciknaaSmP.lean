/- Stripes that are known: the document's answer of bytes. -/
import Derived.Test.YtmdkkhnenciknaaSmO
namespace Go.Proofs.YtmdkkhnenciknaaI
set_option linter.unusedSimpArgs false
set_option linter.unusedVariables false
open Go

theorem takeByte_leS {r : Rd} (h : (rdS r).length ≤ 1000000) : (rdS (takeByte r).1).length ≤ 1000000 := by
  match r, h with
  | none, _ => simp [takeByte, rdS]
  | some [], _ => simp [takeByte, rdS]
  | some (b :: s), h => simp only [takeByte, rdS, List.length_cons] at h ⊢; omega
theorem takeMany_leS : ∀ (k : Nat) (acc : List Int) (r : Rd), (rdS r).length ≤ 1000000 → (rdS (takeMany takeInt k acc r).1).length ≤ 1000000
  | 0, acc, r, h => h
  | k + 1, acc, r, h => by
    have h1 := takeInt_le h
    rw [takeMany]
    rcases hx : takeInt r with ⟨x, n⟩
    rw [hx] at h1
    cases x with
    | none => simp [rdS]
    | some s => exact takeMany_leS k (acc ++ [n]) (some s) h1
theorem takeList_leS {r : Rd} (h : (rdS r).length ≤ 1000000) : (rdS (takeList takeInt r).1).length ≤ 1000000 := by
  have h1 := takeInt_le h
  unfold takeList
  rcases hx : takeInt r with ⟨x, n⟩
  rw [hx] at h1
  cases x with
  | none => simp [rdS]
  | some s =>
    simp only
    split
    · simp [rdS]
    · exact takeMany_leS _ _ _ h1
theorem takeMany_bad {α : Type} (one : Rd → Rd × α) : ∀ (k : Nat) (acc : List α) (r : Rd), r ≠ none → (takeMany one k acc r).1 = none → (takeMany one k acc r).2 = []
  | 0, acc, r, h, e => absurd e h
  | k + 1, acc, r, h, e => by
    rw [takeMany] at e ⊢
    rcases hx : one r with ⟨x, n⟩
    rw [hx] at e
    cases x with
    | none => rfl
    | some s => exact takeMany_bad one k _ (some s) (by simp) e
theorem takeList_bad {α : Type} (one : Rd → Rd × α) (r : Rd) (h : (takeList one r).1 = none) : (takeList one r).2 = [] := by
  unfold takeList at h ⊢
  rcases hx : takeInt r with ⟨x, n⟩
  rw [hx] at h
  cases x with
  | none => rfl
  | some s =>
    simp only at h ⊢
    split
    · rfl
    · rename_i hc
      rw [if_neg hc] at h
      exact takeMany_bad one _ _ _ (by simp) h
theorem okR_bad {r : Rd} (h : (sE r).1 = none) : okR r = false := by
  have e : (sE r).2 = [] := takeList_bad takeInt _ h
  rw [Bool.eq_false_iff]
  intro ht
  have := okR_ok ht
  have := (St.may_iff.1 this.may).2.2.2.2.2.1
  simp only [stR, e, List.length_nil] at this
  omega
theorem okR_none : okR none = false := by
  rw [Bool.eq_false_iff]
  intro ht
  have := (okR_ok ht).s1
  simp [stR, sA, takeByte] at this
theorem rdL_none (k : Nat) (acc : List St) : (match rdL k acc none with | none => none | some (r', L) => if rdE r' = 0 ∧ opn L ≤ 256 then some L else none) = none := by
  cases k with
  | zero => simp [rdL, rdE]
  | succ k => simp [rdL, okR_none]

/-- A list of stripes that is appended to: where it lies, off what. -/
def Lst (H : IHeap) (S Q : List Nat) (u : Value) (L : List St) : Prop := ∃ rows : List (List Value), rows.length = L.length ∧
  ((Q = [] ∧ rows = [] ∧ u = .slice none 0 0) ∨ (∃ q, Q = [q] ∧ q < H.next ∧ q ∉ S ∧ rows ≠ [] ∧ u = .slice (some ⟨q, 0, none⟩) rows.length (UNK + 6) ∧ H.get q = some (.cells rows.flatten false))) ∧
  ∀ i x, L[i]? = some x → ∃ v, rows[i]? = some (rowSt i x v) ∧ SlW H 1 v (x.sv.map rowI) ∧ Far H v (Q ++ S)
theorem Lst.nil (H : IHeap) (S : List Nat) : Lst H S [] (.slice none 0 0) [] := ⟨[], rfl, .inl ⟨rfl, rfl, rfl⟩, fun i x hx => by simp at hx⟩
theorem Lst.lt {H : IHeap} {S Q : List Nat} {u : Value} {L : List St} (h : Lst H S Q u L) : ∀ b ∈ Q, b < H.next := by
  obtain ⟨rows, _, h, _⟩ := h
  rcases h with ⟨rfl, _⟩ | ⟨q, rfl, h1, _⟩
  · simp
  · intro b hb
    simp only [List.mem_singleton] at hb
    omega
theorem Lst.upd {H H' : IHeap} {S S' Q : List Nat} {u : Value} {L : List St} (h : Lst H S Q u L) (hu : IHeap.upd S' H H') (hs : ∀ b ∈ S', b ∈ S) : Lst H' S Q u L := by
  obtain ⟨rows, h1, h2, h3⟩ := h
  refine ⟨rows, h1, h2.imp id fun ⟨q, a, b, c, d, e, f⟩ => ⟨q, a, Nat.lt_of_lt_of_le b hu.next, c, d, e, (hu.get q b fun hm => c (hs q hm)).trans f⟩, fun i x hx => ?_⟩
  obtain ⟨v, w1, w2, w3⟩ := h3 i x hx
  exact ⟨v, w1, w2.upd (fun b o n c e hm => (w3 b o n c e).1 (List.mem_append_right _ (hs b hm))) hu, w3.le hu.next⟩
theorem Lst.le {H H' : IHeap} {S Q : List Nat} {u : Value} {L : List St} (h : Lst H S Q u L) (hu : H.le H') : Lst H' S Q u L := h.upd (hu.upd []) (by simp)
theorem Lst.less {H : IHeap} {S S' Q : List Nat} {u : Value} {L : List St} (h : Lst H S Q u L) (hs : ∀ b ∈ S', b ∈ S) : Lst H S' Q u L := by
  obtain ⟨rows, h1, h2, h3⟩ := h
  refine ⟨rows, h1, h2.imp id fun ⟨q, a, b, c, d, e, f⟩ => ⟨q, a, b, fun hm => c (hs q hm), d, e, f⟩, fun i x hx => ?_⟩
  obtain ⟨v, w1, w2, w3⟩ := h3 i x hx
  refine ⟨v, w1, w2, fun b o n c e => ⟨fun hm => (w3 b o n c e).1 ?_, (w3 b o n c e).2⟩⟩
  rcases List.mem_append.1 hm with hm | hm
  · exact List.mem_append_left _ hm
  · exact List.mem_append_right _ (hs b hm)
theorem Lst.lenv {H : IHeap} {S Q : List Nat} {u : Value} {L : List St} (h : Lst H S Q u L) : ∃ a cap, u = .slice a L.length cap := by
  obtain ⟨rows, h1, h2, _⟩ := h
  rcases h2 with ⟨_, e, rfl⟩ | ⟨q, _, _, _, _, rfl, _⟩
  · rw [e] at h1; exact ⟨_, _, by rw [← h1]; rfl⟩
  · exact ⟨_, _, by rw [h1]⟩
theorem Lst.six {H : IHeap} {S Q : List Nat} {L : List St} {rows : List (List Value)} (h1 : rows.length = L.length) (h3 : ∀ i x, L[i]? = some x → ∃ v, rows[i]? = some (rowSt i x v) ∧ SlW H 1 v (x.sv.map rowI) ∧ Far H v (Q ++ S)) : ∀ r ∈ rows, r.length = 6 := by
  intro r hr
  obtain ⟨i, hi, e⟩ := List.getElem_of_mem hr
  obtain ⟨v, w, _⟩ := h3 i (L[i]'(by omega)) (List.getElem?_eq_getElem _)
  rw [List.getElem?_eq_getElem hi, e] at w
  injection w with w
  rw [w]; rfl
theorem Lst.rs {H : IHeap} {S Q : List Nat} {u : Value} {L : List St} (h : Lst H S Q u L) : RS H S u L := by
  obtain ⟨rows, h1, h2, h3⟩ := h
  have h6 := Lst.six h1 h3
  refine ⟨rows, ?_, ?_, h1, fun i x hx => ?_⟩
  · rcases h2 with ⟨_, rfl, rfl⟩ | ⟨q, _, hq, _, _, rfl, hg⟩
    · exact SlW.nil H 6
    · exact Own.slw (B := 0) ⟨h6, q, Nat.zero_le _, hq, rfl, hg⟩
  · intro b o n cc e
    rcases h2 with ⟨_, _, rfl⟩ | ⟨q, _, hq, hS, _, rfl, _⟩
    · simp at e
    · simp only [Value.slice.injEq, Option.some.injEq, Addr.mk.injEq] at e
      obtain ⟨⟨rfl, _⟩, _⟩ := e
      exact ⟨hS, hq⟩
  · obtain ⟨v, w1, w2, w3⟩ := h3 i x hx
    exact ⟨v, w1, w2, fun b o n c e => ⟨fun hm => (w3 b o n c e).1 (List.mem_append_right _ hm), (w3 b o n c e).2⟩⟩
theorem Lst.push {H : IHeap} {S Q : List Nat} {u : Value} {L : List St} {x : St} {v : Value} (h : Lst H S Q u L) (hl : L.length ≤ 100000) (hS : ∀ b ∈ S, b < H.next) (hv : SlW H 1 v (x.sv.map rowI)) (hf : Far H v (Q ++ S)) :
    ∃ H', appendI H 6 64 u 1 (rowSt L.length x v) = some (.slice (some ⟨H.next, 0, none⟩) (L.length + 1) (UNK + 6), H') ∧ Lst H' S [H.next] (.slice (some ⟨H.next, 0, none⟩) (L.length + 1) (UNK + 6)) (L ++ [x]) ∧ IHeap.upd Q H H' := by
  have hone : (rowSt L.length x v).all one1 = true := by
    obtain ⟨a, c, rfl⟩ := hv.len
    rfl
  obtain ⟨rows, h1, h2, h3⟩ := h
  have h6 := Lst.six h1 h3
  have fin : ∀ H', H'.get H.next = some (.cells (rows ++ [rowSt L.length x v]).flatten false) → H'.next = H.next + 1 → IHeap.upd Q H H' → Lst H' S [H.next] (.slice (some ⟨H.next, 0, none⟩) (L.length + 1) (UNK + 6)) (L ++ [x]) := by
    intro H' g n u'
    have tr : ∀ w (l : List Int), SlW H 1 w (l.map rowI) → Far H w (Q ++ S) → SlW H' 1 w (l.map rowI) ∧ Far H' w ([H.next] ++ S) := fun w l s f =>
      ⟨s.upd (fun b o n c e hm => (f b o n c e).1 (List.mem_append_left _ hm)) u', fun b o n c e => by
        have := f b o n c e
        refine ⟨fun hm => ?_, by omega⟩
        simp only [List.mem_append, List.mem_singleton] at hm
        rcases hm with rfl | hm
        · omega
        · exact this.1 (List.mem_append_right _ hm)⟩
    refine ⟨rows ++ [rowSt L.length x v], by simp [h1], .inr ⟨H.next, rfl, by omega, fun hm => by have := hS _ hm; omega, by simp, by simp [h1], g⟩, fun i y hy => ?_⟩
    by_cases hi : i < L.length
    · rw [List.getElem?_append_left hi] at hy
      obtain ⟨w, w1, w2, w3⟩ := h3 i y hy
      obtain ⟨t1, t2⟩ := tr w y.sv w2 w3
      exact ⟨w, by rw [List.getElem?_append_left (by omega)]; exact w1, t1, t2⟩
    · have hi2 : i = L.length := by
        have := (List.getElem?_eq_some_iff.1 hy).1
        simp only [List.length_append, List.length_singleton] at this; omega
      subst hi2
      rw [List.getElem?_append_right (Nat.le_refl _)] at hy
      simp only [Nat.sub_self, List.getElem?_cons_zero, Option.some.injEq] at hy
      subst hy
      obtain ⟨t1, t2⟩ := tr v x.sv hv hf
      exact ⟨v, by rw [List.getElem?_append_right (by omega), h1, Nat.sub_self]; rfl, t1, t2⟩
  rcases h2 with ⟨rfl, rfl, rfl⟩ | ⟨q, rfl, hq, _, hne, rfl, hg⟩
  · obtain ⟨H', e, g, n, u, z⟩ := push_ok (H := H) (q := H.next) (size := 6) (bytes := 64) (u := .slice none 0 0) (rows := []) (new := rowSt L.length x v) (.inl ⟨rfl, rfl⟩) (by simp) (by omega) (by omega) rfl hone (by simp) (by simp)
    have hL : L = [] := List.length_eq_zero_iff.1 h1.symm
    subst hL
    exact ⟨H', e, fin H' g n ((z rfl).upd _), (z rfl).upd _⟩
  · obtain ⟨H', e, g, n, u, z⟩ := push_ok (H := H) (q := q) (size := 6) (bytes := 64) (u := .slice (some ⟨q, 0, none⟩) rows.length (UNK + 6)) (rows := rows) (new := rowSt L.length x v) (.inr ⟨hne, rfl, hg⟩) h6 (by omega) (by omega) rfl hone (by omega) (by omega)
    rw [h1] at e ⊢
    exact ⟨H', e, fin H' g n u, u⟩

end Go.Proofs.YtmdkkhnenciknaaI
