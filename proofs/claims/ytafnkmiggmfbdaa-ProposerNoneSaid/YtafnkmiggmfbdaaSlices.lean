/- Slices that are appended to; what stays of a heap. -/
import Derived.Test.YtafnkmiggmfbdaaIdealX
namespace Go.Proofs.YtafnkmiggmfbdaaI
set_option linter.unusedSimpArgs false
set_option linter.unusedVariables false
open Go

/-- All below B is as it was. -/
structure IHeap.keep (B : Nat) (H H' : IHeap) : Prop where
  next : H.next ≤ H'.next
  get : ∀ b, b < B → H'.get b = H.get b

theorem IHeap.keep_refl (B : Nat) (H : IHeap) : IHeap.keep B H H := ⟨Nat.le_refl _, fun _ _ => rfl⟩
theorem IHeap.keep.trans {B : Nat} {A C D : IHeap} (h : IHeap.keep B A C) (k : IHeap.keep B C D) : IHeap.keep B A D := ⟨Nat.le_trans h.next k.next, fun b hb => (k.get b hb).trans (h.get b hb)⟩
theorem IHeap.keep.weak {B B' : Nat} {A C : IHeap} (h : IHeap.keep B A C) (hb : B' ≤ B) : IHeap.keep B' A C := ⟨h.next, fun b k => h.get b (Nat.lt_of_lt_of_le k hb)⟩
theorem IHeap.le.keep {A C : IHeap} (h : A.le C) {B : Nat} (hb : B ≤ A.next) : IHeap.keep B A C := ⟨h.next, fun b k => h.get b (Nat.lt_of_lt_of_le k hb)⟩
theorem IHeap.keep.le {A C : IHeap} {B : Nat} (h : IHeap.keep B A C) (hb : A.next ≤ B) : A.le C := ⟨h.next, fun b k => h.get b (Nat.lt_of_lt_of_le k hb)⟩
theorem IHeap.keep.alloc {B : Nat} {A C : IHeap} (h : IHeap.keep B A C) (hb : B ≤ C.next) (o : IObj) : IHeap.keep B A (C.alloc o) := h.trans ((C.le_alloc o).keep hb)
theorem IHeap.keep.set {B : Nat} {A C : IHeap} (h : IHeap.keep B A C) {i : Nat} (hi : B ≤ i) (o : IObj) : IHeap.keep B A (C.set i o) := ⟨h.next, fun b hb => by
  rw [YW, if_neg (by omega)]; exact h.get b hb⟩
/-- A heap that grew out of another one, and then kept it. -/
theorem IHeap.le.then {A C D : IHeap} (h : A.le C) {B : Nat} (k : IHeap.keep B C D) (hb : A.next ≤ B) : A.le D := ⟨Nat.le_trans h.next k.next, fun b hb' => (k.get b (by omega)).trans (h.get b hb')⟩

theorem IHeap.upd.trans {S : List Nat} {A B C : IHeap} (h : IHeap.upd S A B) (k : IHeap.upd S B C) : IHeap.upd S A C :=
  ⟨Nat.le_trans h.next k.next, fun b hb hs => (k.get b (Nat.lt_of_lt_of_le hb h.next) hs).trans (h.get b hb hs)⟩
theorem IHeap.upd.keep {S : List Nat} {A C : IHeap} (h : IHeap.upd S A C) {B : Nat} (hb : B ≤ A.next) (hs : ∀ i ∈ S, B ≤ i) : IHeap.keep B A C :=
  ⟨h.next, fun b k => h.get b (by omega) fun hm => by have := hs b hm; omega⟩
theorem IHeap.keep.upd {S : List Nat} {A C : IHeap} {B : Nat} (h : IHeap.keep B A C) (hb : A.next ≤ B) : IHeap.upd S A C := ⟨h.next, fun b k _ => h.get b (by omega)⟩
theorem IHeap.upd.keepTrans {S : List Nat} {A C D : IHeap} {B : Nat} (h : IHeap.upd S A C) (k : IHeap.keep B C D) (hb : A.next ≤ B) : IHeap.upd S A D :=
  ⟨Nat.le_trans h.next k.next, fun b hb' hs => (k.get b (by omega)).trans (h.get b hb' hs)⟩
theorem IHeap.le.updTrans {S : List Nat} {A C D : IHeap} (h : A.le C) (k : IHeap.upd S C D) : IHeap.upd S A D :=
  ⟨Nat.le_trans h.next k.next, fun b hb hs => (k.get b (Nat.lt_of_lt_of_le hb h.next) hs).trans (h.get b hb)⟩
theorem IHeap.le.updLe {S : List Nat} {A C D : IHeap} (h : A.le C) (k : IHeap.upd S C D) (hs : ∀ i ∈ S, A.next ≤ i) : A.le D :=
  ⟨Nat.le_trans h.next k.next, fun b hb => (k.get b (Nat.lt_of_lt_of_le hb h.next) fun hm => by have := hs b hm; omega).trans (h.get b hb)⟩

theorem flat_row {α : Type} : ∀ (rows : List (List α)) (size i : Nat) (r : List α), (∀ r ∈ rows, r.length = size) → rows[i]? = some r → (rows.flatten.drop (i * size)).take size = r ∧ i * size + size ≤ rows.flatten.length
  | [], _, _, _, _, h => by simp at h
  | d :: es, size, 0, r, h, hi => by
    have := h d (by simp)
    simp only [List.getElem?_cons_zero, Option.some.injEq] at hi
    subst hi
    simp only [List.flatten_cons, Nat.zero_mul, List.drop_zero, List.length_append, Nat.zero_add]
    exact ⟨by rw [← this, List.take_left], by omega⟩
  | d :: es, size, i + 1, r, h, hi => by
    have h0 := h d (by simp)
    obtain ⟨h1, h2⟩ := flat_row es size i r (fun x hx => h x (by simp [hx])) (by simpa using hi)
    simp only [List.flatten_cons, List.length_append]
    have e : (i + 1) * size = d.length + i * size := by rw [h0, Nat.add_mul]; omega
    refine ⟨?_, by omega⟩
    rw [e, List.drop_append, List.drop_eq_nil_of_le (by omega), List.nil_append, Nat.add_sub_cancel_left]
    exact h1
theorem flat_len {α : Type} : ∀ (rows : List (List α)) (size : Nat), (∀ r ∈ rows, r.length = size) → rows.flatten.length = rows.length * size
  | [], _, _ => by simp
  | d :: es, size, h => by
    have h0 := h d (by simp)
    rw [List.flatten_cons, List.length_append, flat_len es size (fun x hx => h x (by simp [hx])), h0, List.length_cons, Nat.add_mul]; omega

/-- A slice in an object of its own, that may grow. -/
def Own (H : IHeap) (B size : Nat) (v : Value) (rows : List (List Value)) : Prop :=
  (∀ r ∈ rows, r.length = size) ∧ ∃ blk, B ≤ blk ∧ blk < H.next ∧ v = .slice (some ⟨blk, 0, none⟩) rows.length (UNK + size) ∧ H.get blk = some (.cells rows.flatten false)
/-- A slice with no room behind it. -/
def Tight (H : IHeap) (size : Nat) (v : Value) (rows : List (List Value)) : Prop :=
  (∀ r ∈ rows, r.length = size) ∧ ∃ blk o cs ro, blk < H.next ∧ rows.length < UNK ∧ v = .slice (some ⟨blk, o, none⟩) rows.length rows.length ∧ H.get blk = some (.cells cs ro) ∧ (cs.drop o).take (rows.length * size) = rows.flatten ∧ o + rows.length * size ≤ cs.length
/-- A slice that may be appended to. -/
def Buf (H : IHeap) (B size : Nat) (v : Value) (rows : List (List Value)) : Prop :=
  (rows = [] ∧ v = .slice none 0 0) ∨ Tight H size v rows ∨ Own H B size v rows

theorem Own.len {H : IHeap} {B size : Nat} {v : Value} {rows : List (List Value)} (h : Own H B size v rows) : ∃ a cap, v = .slice a rows.length cap := by obtain ⟨_, b, _, _, rfl, _⟩ := h; exact ⟨_, _, rfl⟩
theorem Buf.len {H : IHeap} {B size : Nat} {v : Value} {rows : List (List Value)} (h : Buf H B size v rows) : ∃ a cap, v = .slice a rows.length cap := by
  rcases h with ⟨rfl, rfl⟩ | ⟨_, b, _, _, _, _, _, rfl, _⟩ | h
  · exact ⟨_, _, rfl⟩
  · exact ⟨_, _, rfl⟩
  · exact h.len
theorem Buf.rows {H : IHeap} {B size : Nat} {v : Value} {rows : List (List Value)} (h : Buf H B size v rows) : ∀ r ∈ rows, r.length = size := by
  rcases h with ⟨rfl, rfl⟩ | ⟨h, _⟩ | ⟨h, _⟩
  · simp
  · exact h
  · exact h

theorem Own.keep {H H' : IHeap} {B C size : Nat} {v : Value} {rows : List (List Value)} (h : Own H B size v rows) (hk : IHeap.keep C H H') (hC : H.next ≤ C) : Own H' B size v rows := by
  obtain ⟨h0, blk, h1, h2, h3, h4⟩ := h
  exact ⟨h0, blk, h1, Nat.lt_of_lt_of_le h2 hk.next, h3, by rw [hk.get _ (by omega)]; exact h4⟩
theorem Own.le {H H' : IHeap} {B size : Nat} {v : Value} {rows : List (List Value)} (h : Own H B size v rows) (hk : H.le H') : Own H' B size v rows := h.keep (hk.keep (Nat.le_refl _)) (Nat.le_refl _)
theorem Tight.le {H H' : IHeap} {size : Nat} {v : Value} {rows : List (List Value)} (h : Tight H size v rows) (hk : H.le H') : Tight H' size v rows := by
  obtain ⟨h0, blk, o, cs, ro, h1, h2, h3, h4, h5, h6⟩ := h
  exact ⟨h0, blk, o, cs, ro, Nat.lt_of_lt_of_le h1 hk.next, h2, h3, by rw [hk.get _ h1]; exact h4, h5, h6⟩
theorem Buf.le {H H' : IHeap} {B size : Nat} {v : Value} {rows : List (List Value)} (h : Buf H B size v rows) (hk : H.le H') : Buf H' B size v rows := by
  rcases h with h | h | h
  · exact .inl h
  · exact .inr (.inl (h.le hk))
  · exact .inr (.inr (h.le hk))
theorem Own.weak {H : IHeap} {B B' size : Nat} {v : Value} {rows : List (List Value)} (h : Own H B size v rows) (hb : B' ≤ B) : Own H B' size v rows := by
  obtain ⟨h0, blk, h1, h2, h3, h4⟩ := h
  exact ⟨h0, blk, by omega, h2, h3, h4⟩

theorem Own.slr {H : IHeap} {B size : Nat} {v : Value} {rows : List (List Value)} (h : Own H B size v rows) : SlR H size v rows := by
  obtain ⟨h0, blk, h1, h2, rfl, h4⟩ := h
  refine ⟨_, _, rfl, fun _ => ⟨blk, 0, _, false, rfl, h2, h4, fun i r hr => ?_⟩⟩
  have := flat_row rows size i r h0 hr
  exact ⟨h0 r (List.mem_of_getElem? hr), by simpa using this.1, by simpa using this.2⟩
theorem Tight.slr {H : IHeap} {size : Nat} {v : Value} {rows : List (List Value)} (h : Tight H size v rows) : SlR H size v rows := by
  obtain ⟨h0, blk, o, cs, ro, h1, h2, rfl, h4, h5, h6⟩ := h
  refine ⟨_, _, rfl, fun _ => ⟨blk, o, cs, ro, rfl, h1, h4, fun i r hr => ?_⟩⟩
  obtain ⟨f1, f2⟩ := flat_row rows size i r h0 hr
  rw [flat_len rows size h0] at f2
  refine ⟨h0 r (List.mem_of_getElem? hr), ?_, by omega⟩
  rw [← h5, List.drop_take, List.take_take, List.drop_drop] at f1
  rw [← f1, Nat.min_eq_left (by omega)]
theorem Buf.slr {H : IHeap} {B size : Nat} {v : Value} {rows : List (List Value)} (h : Buf H B size v rows) : SlR H size v rows := by
  rcases h with ⟨rfl, rfl⟩ | h | h
  · exact ⟨none, 0, rfl, fun h => absurd rfl h⟩
  · exact h.slr
  · exact h.slr

theorem appendI_zero {H : IHeap} {B size bytes : Nat} {v : Value} {rows : List (List Value)} (hb : Buf H B size v rows) (h0 : 0 < size) (h1 : 0 < bytes) (hn : rows.length * bytes ≤ 140737488355328) (hl : rows.length ≤ 140737488355328) :
    appendI H size bytes v 0 [] = some (v, H) := by
  have hle : ∃ a len cap, v = .slice a len cap ∧ len = rows.length ∧ len ≤ cap := by
    rcases hb with ⟨rfl, rfl⟩ | ⟨_, b, _, _, _, _, _, rfl, _⟩ | ⟨_, b, _, _, rfl, _⟩
    · exact ⟨_, _, _, rfl, rfl, Nat.le_refl _⟩
    · exact ⟨_, _, _, rfl, rfl, Nat.le_refl _⟩
    · exact ⟨_, _, _, rfl, rfl, by unfold UNK; omega⟩
  obtain ⟨a, len, cap, rfl, rfl, hc⟩ := hle
  simp [appendI, h0, h1, hn, hl, hc]

theorem Buf.append {H : IHeap} {B size bytes : Nat} {v : Value} {rows new : List (List Value)} (hb : Buf H B size v rows) (hB : B ≤ H.next) (h0 : 0 < size) (h1 : 0 < bytes)
    (hn : (rows.length + new.length) * bytes ≤ 140737488355328) (hl : rows.length + new.length ≤ 140737488355328) (hnew : ∀ r ∈ new, r.length = size) (hone : new.flatten.all one1 = true) (hne : new ≠ []) :
    ∃ v' H', appendI H size bytes v new.length new.flatten = some (v', H') ∧ Own H' B size v' (rows ++ new) ∧ IHeap.keep B H H' := by
  have hlen := flat_len new size hnew
  have hp : new.length ≠ 0 := by simpa using hne
  have hrows := hb.rows
  have hall : ∀ r ∈ rows ++ new, r.length = size := fun r hr => by rcases List.mem_append.1 hr with h | h; exact hrows r h; exact hnew r h
  have hp' : 0 < new.length := by omega
  have hrl : rows.length * size + new.length * size = (rows.length + new.length) * size := (Nat.add_mul ..).symm
  have hps : 0 < new.length * size := Nat.mul_pos hp' h0
  rcases hb with ⟨rfl, rfl⟩ | ⟨_, blk, o, cs, ro, k1, k2, rfl, k4, k5, k6⟩ | ⟨_, blk, k1, k2, rfl, k4⟩
  · refine ⟨.slice (some ⟨H.next, 0, none⟩) new.length (UNK + size), H.alloc (.cells new.flatten false), ?_, ⟨hall, H.next, hB, by simp [YX], rfl, by simp [YV]⟩, (H.le_alloc _).keep hB⟩
    simp only [List.length_nil, Nat.zero_add] at hn hl
    simp only [appendI, Nat.zero_add]
    rw [if_pos ⟨hn, hl, h1, h0, hlen⟩, if_neg hp]
    rfl
  · refine ⟨.slice (some ⟨H.next, 0, none⟩) (rows.length + new.length) (UNK + size), H.alloc (.cells (rows.flatten ++ new.flatten) false), ?_, ⟨hall, H.next, hB, by simp [YX], by simp, by simp [YV]⟩, (H.le_alloc _).keep hB⟩
    have hf : firstI H size rows.length (.slice (some ⟨blk, o, none⟩) rows.length rows.length) = some rows.flatten := by
      simp only [firstI, IHeap.loadL, k4]
      by_cases hz : rows.length * size = 0
      · rw [if_pos hz]
        have : rows.length = 0 := by rcases Nat.mul_eq_zero.1 hz with h | h; exact h; omega
        simp [List.length_eq_zero_iff.1 this]
      · rw [if_neg hz, if_pos k6, k5]
    have hnc : ¬ (rows.length + new.length ≤ rows.length) := by omega
    simp only [appendI]
    rw [if_pos ⟨hn, hl, h1, h0, hlen⟩, if_neg hp, if_neg (fun h => hnc h.2)]
    simp only [hf, k2, if_true]
  · have hdead : ∀ b, b < B → (H.set blk .dead).get b = H.get b := fun b hb' => by rw [YW, if_neg (by omega)]
    refine ⟨.slice (some ⟨H.next, 0, none⟩) (rows.length + new.length) (UNK + size), (H.set blk .dead).alloc (.cells (rows.flatten ++ new.flatten) false), ?_, ⟨hall, H.next, hB, by simp [YX, YY], by simp, by simp [YV, YY]⟩, ⟨by simp [YX, YY], fun b hb' => by rw [YV, YY, if_neg (by omega)]; exact hdead b hb'⟩⟩
    have hf : firstI H size rows.length (.slice (some ⟨blk, 0, none⟩) rows.length (UNK + size)) = some rows.flatten := by
      simp only [firstI, IHeap.loadL, k4]
      have hfl := flat_len rows size hrows
      by_cases hz : rows.length * size = 0
      · rw [if_pos hz]
        have : rows.length = 0 := by rcases Nat.mul_eq_zero.1 hz with h | h; exact h; omega
        simp [List.length_eq_zero_iff.1 this]
      · rw [if_neg hz, if_pos (by omega), List.drop_zero, List.take_of_length_le (by omega)]
    have hU : ¬ (UNK + size < UNK) := by omega
    have hfl := flat_len rows size hrows
    simp only [appendI]
    rw [if_pos ⟨hn, hl, h1, h0, hlen⟩, if_neg hp, if_neg (fun h => hU h.1)]
    simp only [hf, if_neg hU, if_true, k4, hone]
    rw [if_neg (by omega), if_pos (by omega)]

/-- The same, of one row. -/
theorem Buf.append1 {H : IHeap} {B bytes size : Nat} {v : Value} {rows : List (List Value)} {new : List Value} (hb : Buf H B size v rows) (hB : B ≤ H.next) (h1 : 0 < bytes) (h0 : 0 < size)
    (hn : (rows.length + 1) * bytes ≤ 140737488355328) (hl : rows.length + 1 ≤ 140737488355328) (hnew : new.length = size) (hone : new.all one1 = true) :
    ∃ v' H', appendI H size bytes v 1 new = some (v', H') ∧ Own H' B size v' (rows ++ [new]) ∧ IHeap.keep B H H' := by
  have := hb.append (new := [new]) hB h0 h1 hn hl (by simpa using hnew) (by simpa using hone) (by simp)
  simpa using this

/-- A slice's row, where it stands. -/
theorem SlR.at {H : IHeap} {size : Nat} {v : Value} {rows : List (List Value)} (h : SlR H size v rows) {i : Nat} {r : List Value} (hi : rows[i]? = some r) :
    ∃ b o cap cs ro, v = .slice (some ⟨b, o, none⟩) rows.length cap ∧ b < H.next ∧ H.get b = some (.cells cs ro) ∧ r.length = size ∧ (cs.drop (o + i * size)).take size = r ∧ o + i * size + size ≤ cs.length := by
  obtain ⟨a, cap, rfl, h2⟩ := h
  obtain ⟨b, o, cs, ro, rfl, hb, hget, hrow⟩ := h2 (by rintro rfl; simp at hi)
  exact ⟨b, o, cap, cs, ro, rfl, hb, hget, hrow i r hi⟩
/-- A slice of one cell a row: its cell. -/
theorem SlR.at1 {H : IHeap} {v : Value} {rows : List (List Value)} (h : SlR H 1 v rows) {i : Nat} {x : Value} (hi : rows[i]? = some [x]) :
    ∃ b o cap cs ro, v = .slice (some ⟨b, o, none⟩) rows.length cap ∧ b < H.next ∧ H.get b = some (.cells cs ro) ∧ cs[o + i]? = some x := by
  obtain ⟨b, o, cap, cs, ro, h1, h2, h3, _, h5, h6⟩ := h.at hi
  refine ⟨b, o, cap, cs, ro, h1, h2, h3, ?_⟩
  rw [Nat.mul_one] at h5 h6
  have : ((cs.drop (o + i)).take 1)[0]? = some x := by rw [h5]; rfl
  simpa using this

theorem Own.upd {H H' : IHeap} {S : List Nat} {B size : Nat} {v : Value} {rows : List (List Value)} (h : Own H B size v rows) (hu : IHeap.upd S H H') (hS : ∀ p ∈ S, p < B) : Own H' B size v rows := by
  obtain ⟨h0, blk, h1, h2, h3, h4⟩ := h
  exact ⟨h0, blk, h1, Nat.lt_of_lt_of_le h2 hu.next, h3, by rw [hu.get _ h2 fun hm => by have := hS _ hm; omega]; exact h4⟩
/-- A slice that was nil at first and is only appended to. -/
def Grow (H : IHeap) (B size : Nat) (v : Value) (rows : List (List Value)) : Prop := (rows = [] ∧ v = .slice none 0 0) ∨ Own H B size v rows
theorem Grow.nil (H : IHeap) (B size : Nat) : Grow H B size (.slice none 0 0) [] := .inl ⟨rfl, rfl⟩
theorem Grow.buf {H : IHeap} {B size : Nat} {v : Value} {rows : List (List Value)} (h : Grow H B size v rows) : Buf H B size v rows := h.imp id .inr
theorem Grow.slr {H : IHeap} {B size : Nat} {v : Value} {rows : List (List Value)} (h : Grow H B size v rows) : SlR H size v rows := h.buf.slr
theorem Grow.upd {H H' : IHeap} {S : List Nat} {B size : Nat} {v : Value} {rows : List (List Value)} (h : Grow H B size v rows) (hu : IHeap.upd S H H') (hS : ∀ p ∈ S, p < B) : Grow H' B size v rows := h.imp id fun h => h.upd hu hS
theorem Grow.le {H H' : IHeap} {B size : Nat} {v : Value} {rows : List (List Value)} (h : Grow H B size v rows) (hu : H.le H') : Grow H' B size v rows := h.imp id fun h => h.le hu
theorem Grow.len {H : IHeap} {B size : Nat} {v : Value} {rows : List (List Value)} (h : Grow H B size v rows) : ∃ a cap, v = .slice a rows.length cap := h.buf.len
theorem Grow.append1 {H : IHeap} {B bytes size : Nat} {v : Value} {rows : List (List Value)} {new : List Value} (hb : Grow H B size v rows) (hB : B ≤ H.next) (h1 : 0 < bytes) (h0 : 0 < size)
    (hn : (rows.length + 1) * bytes ≤ 140737488355328) (hl : rows.length + 1 ≤ 140737488355328) (hnew : new.length = size) (hone : new.all one1 = true) :
    ∃ v' H', appendI H size bytes v 1 new = some (v', H') ∧ Grow H' B size v' (rows ++ [new]) ∧ IHeap.keep B H H' := by
  obtain ⟨v', H', h1, h2, h3⟩ := hb.buf.append1 hB h1 h0 hn hl hnew hone
  exact ⟨v', H', h1, .inr h2, h3⟩
theorem Grow.weak {H : IHeap} {B B' size : Nat} {v : Value} {rows : List (List Value)} (h : Grow H B size v rows) (hb : B' ≤ B) : Grow H B' size v rows := h.imp id fun h => h.weak hb

end Go.Proofs.YtafnkmiggmfbdaaI
