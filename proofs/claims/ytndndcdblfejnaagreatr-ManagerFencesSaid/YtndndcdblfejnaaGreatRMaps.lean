/- Slices that are appended to; what stays of a heap. / Slices as they may be cut and copied. / Blocks of one's own: what a call may turn. / Maps as functions of keys. -/
import Derived.Test.YtndndcdblfejnaaGreatRIdealX
namespace Go.Proofs.YtndndcdblfejnaaGreatRI
set_option linter.unusedSimpArgs false
set_option linter.unusedVariables false
open Go

/-- All below B is as it was. -/
structure IHeap.keep (B : Nat) (H H' : IHeap) : Prop where
  next : H.next ≤ H'.next
  get : ∀ b, b < B → H'.get b = H.get b

theorem IHeap.keep_refl (B : Nat) (H : IHeap) : IHeap.keep B H H := ⟨Nat.le_refl _, fun _ _ => rfl⟩
theorem IHeap.keep.trans {B : Nat} {A C D : IHeap} (h : IHeap.keep B A C) (k : IHeap.keep B C D) : IHeap.keep B A D := ⟨Nat.le_trans h.next k.next, fun b hb => (k.get b hb).trans (h.get b hb)⟩
theorem IHeap.keep.weak {B B' : Nat} {A C : IHeap} (h : IHeap.keep B A C) (hb : B' ≤ B) : IHeap.keep B' A C := ⟨h.next, fun b k => h.get b (Nat.lt_of_lt_of_le k hb)⟩
theorem IHeap.le.keep {A C : IHeap} (h : A.le C) {B : Nat} (hb : B ≤ A.next) : IHeap.keep B A C := ⟨h.next, fun b k => h.get b (Nat.lt_of_lt_of_le k hb)⟩
theorem IHeap.keep.le {A C : IHeap} {B : Nat} (h : IHeap.keep B A C) (hb : A.next ≤ B) : A.le C := ⟨h.next, fun b k => h.get b (Nat.lt_of_lt_of_le k hb)⟩
theorem IHeap.keep.alloc {B : Nat} {A C : IHeap} (h : IHeap.keep B A C) (hb : B ≤ C.next) (o : IObj) : IHeap.keep B A (C.alloc o) := h.trans ((C.le_alloc o).keep hb)
theorem IHeap.keep.set {B : Nat} {A C : IHeap} (h : IHeap.keep B A C) {i : Nat} (hi : B ≤ i) (o : IObj) : IHeap.keep B A (C.set i o) := ⟨h.next, fun b hb => by
  rw [YW, if_neg (by omega)]; exact h.get b hb⟩
/-- A heap that grew out of another one, and then kept it. -/
theorem IHeap.le.then {A C D : IHeap} (h : A.le C) {B : Nat} (k : IHeap.keep B C D) (hb : A.next ≤ B) : A.le D := ⟨Nat.le_trans h.next k.next, fun b hb' => (k.get b (by omega)).trans (h.get b hb')⟩

theorem IHeap.upd.trans {S : List Nat} {A B C : IHeap} (h : IHeap.upd S A B) (k : IHeap.upd S B C) : IHeap.upd S A C :=
  ⟨Nat.le_trans h.next k.next, fun b hb hs => (k.get b (Nat.lt_of_lt_of_le hb h.next) hs).trans (h.get b hb hs)⟩
theorem IHeap.upd.keep {S : List Nat} {A C : IHeap} (h : IHeap.upd S A C) {B : Nat} (hb : B ≤ A.next) (hs : ∀ i ∈ S, B ≤ i) : IHeap.keep B A C :=
  ⟨h.next, fun b k => h.get b (by omega) fun hm => by have := hs b hm; omega⟩
theorem IHeap.keep.upd {S : List Nat} {A C : IHeap} {B : Nat} (h : IHeap.keep B A C) (hb : A.next ≤ B) : IHeap.upd S A C := ⟨h.next, fun b k _ => h.get b (by omega)⟩
theorem IHeap.upd.keepTrans {S : List Nat} {A C D : IHeap} {B : Nat} (h : IHeap.upd S A C) (k : IHeap.keep B C D) (hb : A.next ≤ B) : IHeap.upd S A D :=
  ⟨Nat.le_trans h.next k.next, fun b hb' hs => (k.get b (by omega)).trans (h.get b hb' hs)⟩
theorem IHeap.le.updTrans {S : List Nat} {A C D : IHeap} (h : A.le C) (k : IHeap.upd S C D) : IHeap.upd S A D :=
  ⟨Nat.le_trans h.next k.next, fun b hb hs => (k.get b (Nat.lt_of_lt_of_le hb h.next) hs).trans (h.get b hb)⟩
theorem IHeap.le.updLe {S : List Nat} {A C D : IHeap} (h : A.le C) (k : IHeap.upd S C D) (hs : ∀ i ∈ S, A.next ≤ i) : A.le D :=
  ⟨Nat.le_trans h.next k.next, fun b hb => (k.get b (Nat.lt_of_lt_of_le hb h.next) fun hm => by have := hs b hm; omega).trans (h.get b hb)⟩

theorem flat_row {α : Type} : ∀ (rows : List (List α)) (size i : Nat) (r : List α), (∀ r ∈ rows, r.length = size) → rows[i]? = some r → (rows.flatten.drop (i * size)).take size = r ∧ i * size + size ≤ rows.flatten.length
  | [], _, _, _, _, h => by simp at h
  | d :: es, size, 0, r, h, hi => by
    have := h d (by simp)
    simp only [List.getElem?_cons_zero, Option.some.injEq] at hi
    subst hi
    simp only [List.flatten_cons, Nat.zero_mul, List.drop_zero, List.length_append, Nat.zero_add]
    exact ⟨by rw [← this, List.take_left], by omega⟩
  | d :: es, size, i + 1, r, h, hi => by
    have h0 := h d (by simp)
    obtain ⟨h1, h2⟩ := flat_row es size i r (fun x hx => h x (by simp [hx])) (by simpa using hi)
    simp only [List.flatten_cons, List.length_append]
    have e : (i + 1) * size = d.length + i * size := by rw [h0, Nat.add_mul]; omega
    refine ⟨?_, by omega⟩
    rw [e, List.drop_append, List.drop_eq_nil_of_le (by omega), List.nil_append, Nat.add_sub_cancel_left]
    exact h1
theorem flat_len {α : Type} : ∀ (rows : List (List α)) (size : Nat), (∀ r ∈ rows, r.length = size) → rows.flatten.length = rows.length * size
  | [], _, _ => by simp
  | d :: es, size, h => by
    have h0 := h d (by simp)
    rw [List.flatten_cons, List.length_append, flat_len es size (fun x hx => h x (by simp [hx])), h0, List.length_cons, Nat.add_mul]; omega

/-- A slice in an object of its own, that may grow. -/
def Own (H : IHeap) (B size : Nat) (v : Value) (rows : List (List Value)) : Prop :=
  (∀ r ∈ rows, r.length = size) ∧ ∃ blk, B ≤ blk ∧ blk < H.next ∧ v = .slice (some ⟨blk, 0, none⟩) rows.length (UNK + size) ∧ H.get blk = some (.cells rows.flatten false)
/-- A slice with no room behind it. -/
def Tight (H : IHeap) (size : Nat) (v : Value) (rows : List (List Value)) : Prop :=
  (∀ r ∈ rows, r.length = size) ∧ ∃ blk o cs ro, blk < H.next ∧ rows.length < UNK ∧ v = .slice (some ⟨blk, o, none⟩) rows.length rows.length ∧ H.get blk = some (.cells cs ro) ∧ (cs.drop o).take (rows.length * size) = rows.flatten ∧ o + rows.length * size ≤ cs.length
/-- A slice that may be appended to. -/
def Buf (H : IHeap) (B size : Nat) (v : Value) (rows : List (List Value)) : Prop :=
  (rows = [] ∧ v = .slice none 0 0) ∨ Tight H size v rows ∨ Own H B size v rows

theorem Own.len {H : IHeap} {B size : Nat} {v : Value} {rows : List (List Value)} (h : Own H B size v rows) : ∃ a cap, v = .slice a rows.length cap := by obtain ⟨_, b, _, _, rfl, _⟩ := h; exact ⟨_, _, rfl⟩
theorem Buf.len {H : IHeap} {B size : Nat} {v : Value} {rows : List (List Value)} (h : Buf H B size v rows) : ∃ a cap, v = .slice a rows.length cap := by
  rcases h with ⟨rfl, rfl⟩ | ⟨_, b, _, _, _, _, _, rfl, _⟩ | h
  · exact ⟨_, _, rfl⟩
  · exact ⟨_, _, rfl⟩
  · exact h.len
theorem Buf.rows {H : IHeap} {B size : Nat} {v : Value} {rows : List (List Value)} (h : Buf H B size v rows) : ∀ r ∈ rows, r.length = size := by
  rcases h with ⟨rfl, rfl⟩ | ⟨h, _⟩ | ⟨h, _⟩
  · simp
  · exact h
  · exact h

theorem Own.keep {H H' : IHeap} {B C size : Nat} {v : Value} {rows : List (List Value)} (h : Own H B size v rows) (hk : IHeap.keep C H H') (hC : H.next ≤ C) : Own H' B size v rows := by
  obtain ⟨h0, blk, h1, h2, h3, h4⟩ := h
  exact ⟨h0, blk, h1, Nat.lt_of_lt_of_le h2 hk.next, h3, by rw [hk.get _ (by omega)]; exact h4⟩
theorem Own.le {H H' : IHeap} {B size : Nat} {v : Value} {rows : List (List Value)} (h : Own H B size v rows) (hk : H.le H') : Own H' B size v rows := h.keep (hk.keep (Nat.le_refl _)) (Nat.le_refl _)
theorem Tight.le {H H' : IHeap} {size : Nat} {v : Value} {rows : List (List Value)} (h : Tight H size v rows) (hk : H.le H') : Tight H' size v rows := by
  obtain ⟨h0, blk, o, cs, ro, h1, h2, h3, h4, h5, h6⟩ := h
  exact ⟨h0, blk, o, cs, ro, Nat.lt_of_lt_of_le h1 hk.next, h2, h3, by rw [hk.get _ h1]; exact h4, h5, h6⟩
theorem Buf.le {H H' : IHeap} {B size : Nat} {v : Value} {rows : List (List Value)} (h : Buf H B size v rows) (hk : H.le H') : Buf H' B size v rows := by
  rcases h with h | h | h
  · exact .inl h
  · exact .inr (.inl (h.le hk))
  · exact .inr (.inr (h.le hk))
theorem Own.weak {H : IHeap} {B B' size : Nat} {v : Value} {rows : List (List Value)} (h : Own H B size v rows) (hb : B' ≤ B) : Own H B' size v rows := by
  obtain ⟨h0, blk, h1, h2, h3, h4⟩ := h
  exact ⟨h0, blk, by omega, h2, h3, h4⟩

theorem Own.slr {H : IHeap} {B size : Nat} {v : Value} {rows : List (List Value)} (h : Own H B size v rows) : SlR H size v rows := by
  obtain ⟨h0, blk, h1, h2, rfl, h4⟩ := h
  refine ⟨_, _, rfl, fun _ => ⟨blk, 0, _, false, rfl, h2, h4, fun i r hr => ?_⟩⟩
  have := flat_row rows size i r h0 hr
  exact ⟨h0 r (List.mem_of_getElem? hr), by simpa using this.1, by simpa using this.2⟩
theorem Tight.slr {H : IHeap} {size : Nat} {v : Value} {rows : List (List Value)} (h : Tight H size v rows) : SlR H size v rows := by
  obtain ⟨h0, blk, o, cs, ro, h1, h2, rfl, h4, h5, h6⟩ := h
  refine ⟨_, _, rfl, fun _ => ⟨blk, o, cs, ro, rfl, h1, h4, fun i r hr => ?_⟩⟩
  obtain ⟨f1, f2⟩ := flat_row rows size i r h0 hr
  rw [flat_len rows size h0] at f2
  refine ⟨h0 r (List.mem_of_getElem? hr), ?_, by omega⟩
  rw [← h5, List.drop_take, List.take_take, List.drop_drop] at f1
  rw [← f1, Nat.min_eq_left (by omega)]
theorem Buf.slr {H : IHeap} {B size : Nat} {v : Value} {rows : List (List Value)} (h : Buf H B size v rows) : SlR H size v rows := by
  rcases h with ⟨rfl, rfl⟩ | h | h
  · exact ⟨none, 0, rfl, fun h => absurd rfl h⟩
  · exact h.slr
  · exact h.slr

theorem appendI_zero {H : IHeap} {B size bytes : Nat} {v : Value} {rows : List (List Value)} (hb : Buf H B size v rows) (h0 : 0 < size) (h1 : 0 < bytes) (hn : rows.length * bytes ≤ 140737488355328) (hl : rows.length ≤ 140737488355328) :
    appendI H size bytes v 0 [] = some (v, H) := by
  have hle : ∃ a len cap, v = .slice a len cap ∧ len = rows.length ∧ len ≤ cap := by
    rcases hb with ⟨rfl, rfl⟩ | ⟨_, b, _, _, _, _, _, rfl, _⟩ | ⟨_, b, _, _, rfl, _⟩
    · exact ⟨_, _, _, rfl, rfl, Nat.le_refl _⟩
    · exact ⟨_, _, _, rfl, rfl, Nat.le_refl _⟩
    · exact ⟨_, _, _, rfl, rfl, by unfold UNK; omega⟩
  obtain ⟨a, len, cap, rfl, rfl, hc⟩ := hle
  simp [appendI, h0, h1, hn, hl, hc]

theorem Buf.append {H : IHeap} {B size bytes : Nat} {v : Value} {rows new : List (List Value)} (hb : Buf H B size v rows) (hB : B ≤ H.next) (h0 : 0 < size) (h1 : 0 < bytes)
    (hn : (rows.length + new.length) * bytes ≤ 140737488355328) (hl : rows.length + new.length ≤ 140737488355328) (hnew : ∀ r ∈ new, r.length = size) (hone : new.flatten.all one1 = true) (hne : new ≠ []) :
    ∃ v' H', appendI H size bytes v new.length new.flatten = some (v', H') ∧ Own H' B size v' (rows ++ new) ∧ IHeap.keep B H H' := by
  have hlen := flat_len new size hnew
  have hp : new.length ≠ 0 := by simpa using hne
  have hrows := hb.rows
  have hall : ∀ r ∈ rows ++ new, r.length = size := fun r hr => by rcases List.mem_append.1 hr with h | h; exact hrows r h; exact hnew r h
  have hp' : 0 < new.length := by omega
  have hrl : rows.length * size + new.length * size = (rows.length + new.length) * size := (Nat.add_mul ..).symm
  have hps : 0 < new.length * size := Nat.mul_pos hp' h0
  rcases hb with ⟨rfl, rfl⟩ | ⟨_, blk, o, cs, ro, k1, k2, rfl, k4, k5, k6⟩ | ⟨_, blk, k1, k2, rfl, k4⟩
  · refine ⟨.slice (some ⟨H.next, 0, none⟩) new.length (UNK + size), H.alloc (.cells new.flatten false), ?_, ⟨hall, H.next, hB, by simp [YX], rfl, by simp [YV]⟩, (H.le_alloc _).keep hB⟩
    simp only [List.length_nil, Nat.zero_add] at hn hl
    simp only [appendI, Nat.zero_add]
    rw [if_pos ⟨hn, hl, h1, h0, hlen⟩, if_neg hp]
    rfl
  · refine ⟨.slice (some ⟨H.next, 0, none⟩) (rows.length + new.length) (UNK + size), H.alloc (.cells (rows.flatten ++ new.flatten) false), ?_, ⟨hall, H.next, hB, by simp [YX], by simp, by simp [YV]⟩, (H.le_alloc _).keep hB⟩
    have hf : firstI H size rows.length (.slice (some ⟨blk, o, none⟩) rows.length rows.length) = some rows.flatten := by
      simp only [firstI, IHeap.loadL, k4]
      by_cases hz : rows.length * size = 0
      · rw [if_pos hz]
        have : rows.length = 0 := by rcases Nat.mul_eq_zero.1 hz with h | h; exact h; omega
        simp [List.length_eq_zero_iff.1 this]
      · rw [if_neg hz, if_pos k6, k5]
    have hnc : ¬ (rows.length + new.length ≤ rows.length) := by omega
    simp only [appendI]
    rw [if_pos ⟨hn, hl, h1, h0, hlen⟩, if_neg hp, if_neg (fun h => hnc h.2)]
    simp only [hf, k2, if_true]
  · have hdead : ∀ b, b < B → (H.set blk .dead).get b = H.get b := fun b hb' => by rw [YW, if_neg (by omega)]
    refine ⟨.slice (some ⟨H.next, 0, none⟩) (rows.length + new.length) (UNK + size), (H.set blk .dead).alloc (.cells (rows.flatten ++ new.flatten) false), ?_, ⟨hall, H.next, hB, by simp [YX, YY], by simp, by simp [YV, YY]⟩, ⟨by simp [YX, YY], fun b hb' => by rw [YV, YY, if_neg (by omega)]; exact hdead b hb'⟩⟩
    have hf : firstI H size rows.length (.slice (some ⟨blk, 0, none⟩) rows.length (UNK + size)) = some rows.flatten := by
      simp only [firstI, IHeap.loadL, k4]
      have hfl := flat_len rows size hrows
      by_cases hz : rows.length * size = 0
      · rw [if_pos hz]
        have : rows.length = 0 := by rcases Nat.mul_eq_zero.1 hz with h | h; exact h; omega
        simp [List.length_eq_zero_iff.1 this]
      · rw [if_neg hz, if_pos (by omega), List.drop_zero, List.take_of_length_le (by omega)]
    have hU : ¬ (UNK + size < UNK) := by omega
    have hfl := flat_len rows size hrows
    simp only [appendI]
    rw [if_pos ⟨hn, hl, h1, h0, hlen⟩, if_neg hp, if_neg (fun h => hU h.1)]
    simp only [hf, if_neg hU, if_true, k4, hone]
    rw [if_neg (by omega), if_pos (by omega)]

/-- The same, of one row. -/
theorem Buf.append1 {H : IHeap} {B bytes size : Nat} {v : Value} {rows : List (List Value)} {new : List Value} (hb : Buf H B size v rows) (hB : B ≤ H.next) (h1 : 0 < bytes) (h0 : 0 < size)
    (hn : (rows.length + 1) * bytes ≤ 140737488355328) (hl : rows.length + 1 ≤ 140737488355328) (hnew : new.length = size) (hone : new.all one1 = true) :
    ∃ v' H', appendI H size bytes v 1 new = some (v', H') ∧ Own H' B size v' (rows ++ [new]) ∧ IHeap.keep B H H' := by
  have := hb.append (new := [new]) hB h0 h1 hn hl (by simpa using hnew) (by simpa using hone) (by simp)
  simpa using this

/-- A slice's row, where it stands. -/
theorem SlR.at {H : IHeap} {size : Nat} {v : Value} {rows : List (List Value)} (h : SlR H size v rows) {i : Nat} {r : List Value} (hi : rows[i]? = some r) :
    ∃ b o cap cs ro, v = .slice (some ⟨b, o, none⟩) rows.length cap ∧ b < H.next ∧ H.get b = some (.cells cs ro) ∧ r.length = size ∧ (cs.drop (o + i * size)).take size = r ∧ o + i * size + size ≤ cs.length := by
  obtain ⟨a, cap, rfl, h2⟩ := h
  obtain ⟨b, o, cs, ro, rfl, hb, hget, hrow⟩ := h2 (by rintro rfl; simp at hi)
  exact ⟨b, o, cap, cs, ro, rfl, hb, hget, hrow i r hi⟩
/-- A slice of one cell a row: its cell. -/
theorem SlR.at1 {H : IHeap} {v : Value} {rows : List (List Value)} (h : SlR H 1 v rows) {i : Nat} {x : Value} (hi : rows[i]? = some [x]) :
    ∃ b o cap cs ro, v = .slice (some ⟨b, o, none⟩) rows.length cap ∧ b < H.next ∧ H.get b = some (.cells cs ro) ∧ cs[o + i]? = some x := by
  obtain ⟨b, o, cap, cs, ro, h1, h2, h3, _, h5, h6⟩ := h.at hi
  refine ⟨b, o, cap, cs, ro, h1, h2, h3, ?_⟩
  rw [Nat.mul_one] at h5 h6
  have : ((cs.drop (o + i)).take 1)[0]? = some x := by rw [h5]; rfl
  simpa using this

theorem Own.upd {H H' : IHeap} {S : List Nat} {B size : Nat} {v : Value} {rows : List (List Value)} (h : Own H B size v rows) (hu : IHeap.upd S H H') (hS : ∀ p ∈ S, p < B) : Own H' B size v rows := by
  obtain ⟨h0, blk, h1, h2, h3, h4⟩ := h
  exact ⟨h0, blk, h1, Nat.lt_of_lt_of_le h2 hu.next, h3, by rw [hu.get _ h2 fun hm => by have := hS _ hm; omega]; exact h4⟩
/-- A slice that was nil at first and is only appended to. -/
def Grow (H : IHeap) (B size : Nat) (v : Value) (rows : List (List Value)) : Prop := (rows = [] ∧ v = .slice none 0 0) ∨ Own H B size v rows
theorem Grow.nil (H : IHeap) (B size : Nat) : Grow H B size (.slice none 0 0) [] := .inl ⟨rfl, rfl⟩
theorem Grow.buf {H : IHeap} {B size : Nat} {v : Value} {rows : List (List Value)} (h : Grow H B size v rows) : Buf H B size v rows := h.imp id .inr
theorem Grow.slr {H : IHeap} {B size : Nat} {v : Value} {rows : List (List Value)} (h : Grow H B size v rows) : SlR H size v rows := h.buf.slr
theorem Grow.upd {H H' : IHeap} {S : List Nat} {B size : Nat} {v : Value} {rows : List (List Value)} (h : Grow H B size v rows) (hu : IHeap.upd S H H') (hS : ∀ p ∈ S, p < B) : Grow H' B size v rows := h.imp id fun h => h.upd hu hS
theorem Grow.le {H H' : IHeap} {B size : Nat} {v : Value} {rows : List (List Value)} (h : Grow H B size v rows) (hu : H.le H') : Grow H' B size v rows := h.imp id fun h => h.le hu
theorem Grow.len {H : IHeap} {B size : Nat} {v : Value} {rows : List (List Value)} (h : Grow H B size v rows) : ∃ a cap, v = .slice a rows.length cap := h.buf.len
theorem Grow.append1 {H : IHeap} {B bytes size : Nat} {v : Value} {rows : List (List Value)} {new : List Value} (hb : Grow H B size v rows) (hB : B ≤ H.next) (h1 : 0 < bytes) (h0 : 0 < size)
    (hn : (rows.length + 1) * bytes ≤ 140737488355328) (hl : rows.length + 1 ≤ 140737488355328) (hnew : new.length = size) (hone : new.all one1 = true) :
    ∃ v' H', appendI H size bytes v 1 new = some (v', H') ∧ Grow H' B size v' (rows ++ [new]) ∧ IHeap.keep B H H' := by
  obtain ⟨v', H', h1, h2, h3⟩ := hb.buf.append1 hB h1 h0 hn hl hnew hone
  exact ⟨v', H', h1, .inr h2, h3⟩
theorem Grow.weak {H : IHeap} {B B' size : Nat} {v : Value} {rows : List (List Value)} (h : Grow H B size v rows) (hb : B' ≤ B) : Grow H B' size v rows := h.imp id fun h => h.weak hb

end Go.Proofs.YtndndcdblfejnaaGreatRI
namespace Go.Proofs.YtndndcdblfejnaaGreatRI
set_option linter.unusedSimpArgs false
set_option linter.unusedVariables false
open Go

/-- A slice whose room is known, or not known at all. -/
def SlW (H : IHeap) (size : Nat) (v : Value) (rows : List (List Value)) : Prop :=
  SlR H size v rows ∧ ∃ a cap, v = .slice a rows.length cap ∧ (a = none ∨ ∃ b o, a = some ⟨b, o, none⟩) ∧ ((cap < UNK ∧ rows.length ≤ cap) ∨ (cap = UNK + size ∧ a ≠ none))

theorem rows_flat {size : Nat} {cs : List Value} : ∀ (rows : List (List Value)) (o : Nat), o ≤ cs.length → (∀ i r, rows[i]? = some r → r.length = size ∧ (cs.drop (o + i * size)).take size = r ∧ o + i * size + size ≤ cs.length) →
    (cs.drop o).take (rows.length * size) = rows.flatten ∧ o + rows.length * size ≤ cs.length
  | [], o, ho, _ => by simp; exact ho
  | r :: rows, o, ho, h => by
    have h0 := h 0 r (by simp)
    simp only [Nat.zero_mul, Nat.add_zero] at h0
    have ih := rows_flat rows (o + size) h0.2.2 fun i x hx => by
      have := h (i + 1) x (by simpa using hx)
      rw [Nat.add_mul, Nat.one_mul] at this
      have e : o + (i * size + size) = o + size + i * size := by omega
      rw [e] at this; exact this
    simp only [List.length_cons, List.flatten_cons]
    have e2 : (rows.length + 1) * size = size + rows.length * size := by rw [Nat.add_mul]; omega
    rw [e2]
    refine ⟨?_, by omega⟩
    rw [List.take_add, h0.2.1, List.drop_drop, ih.1]

theorem SlW.first {H : IHeap} {size : Nat} {v : Value} {rows : List (List Value)} (h : SlW H size v rows) (h0 : 0 < size) : firstI H size rows.length v = some rows.flatten := by
  obtain ⟨⟨a', cap', e, h2⟩, a, cap, rfl, ha, hc⟩ := h
  simp only [Value.slice.injEq] at e
  obtain ⟨rfl, -, rfl⟩ := e
  by_cases hr : rows = []
  · subst hr
    rcases ha with rfl | ⟨b, o, rfl⟩
    · rfl
    · simp [firstI]
  · obtain ⟨b, o, cs, ro, rfl, hb, hget, hrow⟩ := h2 hr
    have hl : 0 < rows.length := List.length_pos_iff.2 hr
    obtain ⟨r0, hr0⟩ : ∃ r, rows[0]? = some r := ⟨rows[0], by simp⟩
    have := (hrow 0 r0 hr0).2.2
    obtain ⟨e1, e2⟩ := rows_flat rows o (by omega) hrow
    have hp : 0 < rows.length * size := Nat.mul_pos hl h0
    simp only [firstI, IHeap.loadL, hget]
    rw [if_neg (by omega), if_pos e2, e1]

theorem SlW.le {H H' : IHeap} {size : Nat} {v : Value} {rows : List (List Value)} (h : SlW H size v rows) (hl : H.le H') : SlW H' size v rows := ⟨h.1.le hl, h.2⟩
theorem SlW.len {H : IHeap} {size : Nat} {v : Value} {rows : List (List Value)} (h : SlW H size v rows) : ∃ a cap, v = .slice a rows.length cap := by obtain ⟨_, a, cap, e, _⟩ := h; exact ⟨a, cap, e⟩
theorem Tight.slw {H : IHeap} {size : Nat} {v : Value} {rows : List (List Value)} (h : Tight H size v rows) : SlW H size v rows := by
  refine ⟨h.slr, ?_⟩
  obtain ⟨_, blk, o, _, _, _, h2, rfl, _⟩ := h
  exact ⟨_, _, rfl, .inr ⟨blk, o, rfl⟩, .inl ⟨h2, Nat.le_refl _⟩⟩
theorem Own.slw {H : IHeap} {B size : Nat} {v : Value} {rows : List (List Value)} (h : Own H B size v rows) : SlW H size v rows := by
  refine ⟨h.slr, ?_⟩
  obtain ⟨_, blk, _, _, rfl, _⟩ := h
  exact ⟨_, _, rfl, .inr ⟨blk, 0, rfl⟩, .inr ⟨rfl, by simp⟩⟩
theorem SlW.nil (H : IHeap) (size : Nat) : SlW H size (.slice none 0 0) [] := ⟨⟨none, 0, rfl, fun h => absurd rfl h⟩, none, 0, rfl, .inl rfl, .inl ⟨by unfold UNK; omega, Nat.le_refl _⟩⟩
theorem Grow.slw {H : IHeap} {B size : Nat} {v : Value} {rows : List (List Value)} (h : Grow H B size v rows) : SlW H size v rows := by
  rcases h with ⟨rfl, rfl⟩ | h
  · exact SlW.nil H size
  · exact h.slw

theorem addr_add (b o n : Nat) : Option.map (fun x : Addr => x.add n) (some ⟨b, o, none⟩) = some ⟨b, o + n, none⟩ := by simp [Addr.add]
/-- A part of a slice. -/
theorem SlW.cut {H : IHeap} {size n cap i j : Nat} {a : Option Addr} {rows : List (List Value)} (h : SlW H size (.slice a n cap) rows) (h0 : 0 < size) (hij : i ≤ j) (hj : j ≤ rows.length) :
    ∃ v', sliceI H size a n cap i j none = some v' ∧ SlW H size v' ((rows.drop i).take (j - i)) := by
  obtain ⟨⟨a', cap', e, h2⟩, a'', cap'', e', ha, hc⟩ := h
  simp only [Value.slice.injEq] at e e'
  obtain ⟨rfl, rfl, rfl⟩ := e
  obtain ⟨rfl, -, rfl⟩ := e'
  have hlen : ((rows.drop i).take (j - i)).length = j - i := by simp; omega
  have hrows : ∀ (b o : Nat) (cs : List Value) (ro : Bool), b < H.next → H.get b = some (.cells cs ro) → (∀ k r, rows[k]? = some r → r.length = size ∧ (cs.drop (o + k * size)).take size = r ∧ o + k * size + size ≤ cs.length) → ∀ cap2,
      SlR H size (.slice (some ⟨b, o + i * size, none⟩) (j - i) cap2) ((rows.drop i).take (j - i)) := by
    intro b o cs ro hb hg hr cap2
    refine ⟨_, cap2, by rw [hlen], fun _ => ⟨b, o + i * size, cs, ro, rfl, hb, hg, fun k r hk => ?_⟩⟩
    rw [List.getElem?_take] at hk
    split at hk
    · rw [List.getElem?_drop] at hk
      have := hr (i + k) r hk
      rw [Nat.add_mul] at this
      have e : o + (i * size + k * size) = o + i * size + k * size := by omega
      rw [e] at this; exact this
    · cases hk
  rcases hc with ⟨hc1, hc2⟩ | ⟨hc1, hc2⟩
  · have hz : (if cap = i then a else a.map (·.add (i * size))) = none ∨ ∃ b o, (if cap = i then a else a.map (·.add (i * size))) = some ⟨b, o, none⟩ := by
      rcases ha with rfl | ⟨b, o, rfl⟩
      · left; split <;> rfl
      · right; split
        · exact ⟨b, o, rfl⟩
        · exact ⟨b, o + i * size, addr_add _ _ _⟩
    refine ⟨.slice (if cap = i then a else a.map (·.add (i * size))) (j - i) (cap - i), ?_, ?_, _, _, by rw [hlen], hz, .inl ⟨by omega, by rw [hlen]; omega⟩⟩
    · simp only [sliceI, hc1, if_true, Option.getD_none]
      rw [if_pos ⟨by omega, Nat.le_refl _⟩]
    · by_cases hr : rows = []
      · subst hr
        simp only [List.length_nil, Nat.le_zero_eq] at hj
        subst hj
        refine ⟨_, _, by rw [hlen], fun h => ?_⟩
        simp at h
      · obtain ⟨b, o, cs, ro, rfl, hb, hget, hrow⟩ := h2 hr
        by_cases hci : cap = i
        · have hji : j - i = 0 := by omega
          rw [hji]
          exact ⟨_, _, rfl, fun h => by simp at h⟩
        · rw [if_neg hci, addr_add]
          exact hrows b o cs ro hb hget hrow _
  · obtain ⟨b, o, rfl⟩ := ha.resolve_left hc2
    subst hc1
    have hU : ¬ (UNK + size < UNK) := by omega
    refine ⟨.slice (some ⟨b, o + i * size, none⟩) (j - i) (UNK + size), ?_, ?_, _, _, by rw [hlen], .inr ⟨b, _, rfl⟩, .inr ⟨rfl, by simp⟩⟩
    · simp only [sliceI, hU, if_false, Option.getD_none]
      rw [if_pos (by simp [h0, hj])]
    · by_cases hr : rows = []
      · subst hr
        refine ⟨_, _, by rw [hlen], fun h => ?_⟩
        simp at h
      · obtain ⟨b', o', cs, ro, e, hb, hget, hrow⟩ := h2 hr
        simp only [Option.some.injEq, Addr.mk.injEq, and_true] at e
        obtain ⟨rfl, rfl⟩ := e
        exact hrows _ _ cs ro hb hget hrow _

/-- A new nil slice to which another one's rows are appended. -/
theorem copied {H : IHeap} {size bytes : Nat} {u : Value} {rows : List (List Value)} (h : SlW H size u rows) (h0 : 0 < size) (h1 : 0 < bytes) (hone : rows.flatten.all one1 = true) (hn : rows.length * bytes ≤ 140737488355328) (hl : rows.length ≤ 140737488355328) {B : Nat} {v : Value} {old : List (List Value)} (hv : Grow H B size v old) (hB : B ≤ H.next)
    (hn2 : (old.length + rows.length) * bytes ≤ 140737488355328) (hl2 : old.length + rows.length ≤ 140737488355328) :
    ∃ v' H', appendI H size bytes v rows.length rows.flatten = some (v', H') ∧ Grow H' B size v' (old ++ rows) ∧ IHeap.keep B H H' := by
  by_cases hr : rows = []
  · subst hr
    refine ⟨v, H, ?_, by simpa using hv, IHeap.keep_refl _ _⟩
    exact appendI_zero hv.buf h0 h1 (by simpa using hn2) (by simpa using hl2)
  · have hsz : ∀ r ∈ rows, r.length = size := by
      obtain ⟨⟨a', cap', e, h2⟩, _⟩ := h
      obtain ⟨b, o, cs, ro, rfl, hb, hget, hrow⟩ := h2 hr
      intro r hm
      obtain ⟨i, hi⟩ := List.getElem?_of_mem hm
      exact (hrow i r hi).1
    obtain ⟨v', H', e1, e2, e3⟩ := hv.buf.append hB h0 h1 hn2 hl2 hsz hone hr
    exact ⟨v', H', e1, .inr e2, e3⟩

/-- Not among some objects. -/
def Off (v : Value) (S : List Nat) : Prop := ∀ b o n c, v = .slice (some ⟨b, o, none⟩) n c → b ∉ S
theorem SlW.upd {H H' : IHeap} {S : List Nat} {size : Nat} {v : Value} {rows : List (List Value)} (h : SlW H size v rows) (ho : Off v S) (hu : IHeap.upd S H H') : SlW H' size v rows := by
  obtain ⟨⟨a, cap, rfl, h2⟩, h3⟩ := h
  refine ⟨⟨a, cap, rfl, fun hr => ?_⟩, h3⟩
  obtain ⟨b, o, cs, ro, rfl, hb, hget, hrow⟩ := h2 hr
  exact ⟨b, o, cs, ro, rfl, Nat.lt_of_lt_of_le hb hu.next, (hu.get b hb (ho b o _ _ rfl)).trans hget, hrow⟩

end Go.Proofs.YtndndcdblfejnaaGreatRI
namespace Go.Proofs.YtndndcdblfejnaaGreatRI
set_option linter.unusedSimpArgs false
set_option linter.unusedVariables false
open Go

/-- All but B (and what is new) is as it was. -/
structure Fr (B : Nat → Prop) (H H' : IHeap) : Prop where
  next : H.next ≤ H'.next
  get : ∀ b, b < H.next → ¬ B b → H'.get b = H.get b
theorem Fr.refl (B : Nat → Prop) (H : IHeap) : Fr B H H := ⟨Nat.le_refl _, fun _ _ _ => rfl⟩
theorem IHeap.le.fr {H H' : IHeap} (h : H.le H') (B : Nat → Prop) : Fr B H H' := ⟨h.next, fun b hb _ => h.get b hb⟩
theorem Fr.trans {B C : Nat → Prop} {H H1 H2 : IHeap} (h : Fr B H H1) (k : Fr C H1 H2) (hc : ∀ b, C b → B b ∨ H.next ≤ b) : Fr B H H2 :=
  ⟨Nat.le_trans h.next k.next, fun b hb hn => (k.get b (Nat.lt_of_lt_of_le hb h.next) fun hx => (hc b hx).elim hn (fun hx => Nat.not_lt.2 hx hb)).trans (h.get b hb hn)⟩
theorem Fr.trans_le {B : Nat → Prop} {H H1 H2 : IHeap} (h : Fr B H H1) (k : H1.le H2) : Fr B H H2 := h.trans (k.fr fun _ => False) (fun _ hb => hb.elim)
theorem IHeap.le.trans_fr {B : Nat → Prop} {H H1 H2 : IHeap} (h : H.le H1) (k : Fr B H1 H2) : Fr B H H2 := (h.fr B).trans k fun _ hb => .inl hb
theorem Fr.weak {B C : Nat → Prop} {H H' : IHeap} (h : Fr B H H') (hc : ∀ b, B b → C b) : Fr C H H' := ⟨h.next, fun b hb hn => h.get b hb fun hx => hn (hc b hx)⟩
/-- But for what is new. -/
theorem Fr.le {B : Nat → Prop} {H H' : IHeap} (h : Fr B H H') (hb : ∀ b, B b → H.next ≤ b) : H.le H' := ⟨h.next, fun b hb' => h.get b hb' fun hx => Nat.not_lt.2 (hb b hx) hb'⟩
theorem Fr.set {B : Nat → Prop} {H H' : IHeap} (h : Fr B H H') {i : Nat} (hi : B i ∨ H.next ≤ i) (o : IObj) : Fr B H (H'.set i o) := ⟨h.next, fun b hb hn => by
  rw [YW, if_neg (by rintro rfl; rcases hi with hi | hi; exact hn hi; omega)]; exact h.get b hb hn⟩
theorem Fr.alloc {B : Nat → Prop} {H H' : IHeap} (h : Fr B H H') (o : IObj) : Fr B H (H'.alloc o) := h.trans_le (H'.le_alloc o)
theorem IHeap.upd.fr {S : List Nat} {H H' : IHeap} (h : IHeap.upd S H H') {B : Nat → Prop} (hs : ∀ b ∈ S, B b) : Fr B H H' := ⟨h.next, fun b hb hn => h.get b hb fun hm => hn (hs b hm)⟩

theorem row_at {cs r : List Value} {p n : Nat} (h : (cs.drop p).take n = r) (j : Nat) (hj : j < n) : cs[p + j]? = r[j]? := by
  rw [← h, List.getElem?_take, if_pos hj, List.getElem?_drop]
/-- A slice's rows, in a block of D. -/
def SlD (D : Nat → Prop) (H : IHeap) (size : Nat) (v : Value) (rows : List (List Value)) : Prop :=
  SlR H size v rows ∧ ∀ b o n c, v = .slice (some ⟨b, o, none⟩) n c → rows ≠ [] → D b
theorem SlD.sl {D : Nat → Prop} {H : IHeap} {size : Nat} {v : Value} {rows : List (List Value)} (h : SlD D H size v rows) : SlR H size v rows := h.1
theorem SlD.weak {D D' : Nat → Prop} {H : IHeap} {size : Nat} {v : Value} {rows : List (List Value)} (h : SlD D H size v rows) (hd : ∀ b, D b → D' b) : SlD D' H size v rows := ⟨h.1, fun b o n c e hr => hd b (h.2 b o n c e hr)⟩
theorem SlD.fr {B D : Nat → Prop} {H H' : IHeap} {size : Nat} {v : Value} {rows : List (List Value)} (h : SlD D H size v rows) (k : Fr B H H') (hd : ∀ b, D b → ¬ B b) : SlD D H' size v rows := by
  obtain ⟨⟨a, cap, rfl, h2⟩, h3⟩ := h
  refine ⟨⟨a, cap, rfl, fun hr => ?_⟩, h3⟩
  obtain ⟨b, o, cs, ro, rfl, hb, hget, hrow⟩ := h2 hr
  exact ⟨b, o, cs, ro, rfl, Nat.lt_of_lt_of_le hb k.next, (k.get b hb (hd b (h3 b o _ _ rfl hr))).trans hget, hrow⟩
theorem SlD.le {D : Nat → Prop} {H H' : IHeap} {size : Nat} {v : Value} {rows : List (List Value)} (h : SlD D H size v rows) (k : H.le H') : SlD D H' size v rows := ⟨h.1.le k, h.2⟩
theorem SlR.slD {H : IHeap} {size : Nat} {v : Value} {rows : List (List Value)} (h : SlR H size v rows) : SlD (fun b => b < H.next) H size v rows := by
  refine ⟨h, fun b o n c e hr => ?_⟩
  obtain ⟨a, cap, rfl, h2⟩ := h
  obtain ⟨b', o', cs, ro, rfl, hb, _⟩ := h2 hr
  simp only [Value.slice.injEq, Option.some.injEq, Addr.mk.injEq] at e
  obtain ⟨⟨rfl, -⟩, -⟩ := e
  exact hb
theorem Own.slD {H : IHeap} {B size : Nat} {v : Value} {rows : List (List Value)} (h : Own H B size v rows) : SlD (fun b => B ≤ b ∧ b < H.next) H size v rows := by
  refine ⟨h.slr, fun b o n c e _ => ?_⟩
  obtain ⟨_, blk, h1, h2, rfl, _⟩ := h
  simp only [Value.slice.injEq, Option.some.injEq, Addr.mk.injEq] at e
  obtain ⟨⟨rfl, -⟩, -⟩ := e
  exact ⟨h1, h2⟩
theorem Grow.slD {H : IHeap} {B size : Nat} {v : Value} {rows : List (List Value)} (h : Grow H B size v rows) : SlD (fun b => B ≤ b ∧ b < H.next) H size v rows := by
  rcases h with ⟨rfl, rfl⟩ | h
  · exact ⟨Grow.slr (B := B) (.inl ⟨rfl, rfl⟩), fun _ _ _ _ _ h => absurd rfl h⟩
  · exact h.slD

end Go.Proofs.YtndndcdblfejnaaGreatRI
namespace Go.Proofs.YtndndcdblfejnaaGreatRI
set_option linter.unusedSimpArgs false
set_option linter.unusedVariables false
open Go

section
variable {κ α : Type} [DecidableEq κ]

/-- Keys of a type, under a name each. -/
structure KeyOf (P : Program) (kt : TypeId) (f : κ → Value) : Prop where
  eq : ∀ a b, pureRun P (Op.equal kt (f a) (f b)) = some (decide (a = b))
  ck : ∀ e a, (pureRun P (Instr.checkKey e 10000 kt (f a))).isSome = true
  sc : ∀ a, scal (f a) = true
  sb : ∀ a, Instr.sameBits 10000 (f a) (f a) = true

def alGet (l : List (κ × α)) (k : κ) : Option α := (l.find? fun p => decide (p.1 = k)).map (·.2)

theorem alGet_cons (p : κ × α) (l : List (κ × α)) (k : κ) : alGet (p :: l) k = if p.1 = k then some p.2 else alGet l k := by
  unfold alGet
  rw [List.find?_cons]
  by_cases h : p.1 = k <;> simp [h]
theorem alGet_append (l : List (κ × α)) (k k' : κ) (a : α) (h : alGet l k = none) : alGet (l ++ [(k, a)]) k' = if k = k' then some a else alGet l k' := by
  induction l with
  | nil => rw [List.nil_append, alGet_cons]
  | cons p l ih =>
    rw [alGet_cons] at h
    by_cases hp : p.1 = k
    · rw [if_pos hp] at h; cases h
    · rw [if_neg hp] at h
      rw [List.cons_append, alGet_cons, alGet_cons, ih h]
      by_cases h1 : p.1 = k'
      · rw [if_pos h1, if_pos h1, if_neg (by rintro rfl; exact hp h1)]
      · rw [if_neg h1, if_neg h1]
theorem alGet_none {l : List (κ × α)} {k : κ} (h : alGet l k = none) : k ∉ l.map (·.1) := by
  induction l with
  | nil => simp
  | cons p l ih =>
    rw [alGet_cons] at h
    by_cases hp : p.1 = k
    · rw [if_pos hp] at h; cases h
    · rw [if_neg hp] at h
      simp only [List.map_cons, List.mem_cons, not_or]
      exact ⟨fun h => hp h.symm, ih h⟩
theorem alGet_not {l : List (κ × α)} {k : κ} (h : k ∉ l.map (·.1)) : alGet l k = none := by
  induction l with
  | nil => rfl
  | cons p l ih =>
    simp only [List.map_cons, List.mem_cons, not_or] at h
    rw [alGet_cons, if_neg (fun e => h.1 e.symm), ih h.2]

/-- Where a key stands. -/
def alIdx (l : List (κ × α)) (k : κ) : Option Nat := l.findIdx? fun p => decide (p.1 = k)
theorem alIdx_some {l : List (κ × α)} {k : κ} {i : Nat} (h : alIdx l k = some i) : ∃ a, l[i]? = some (k, a) ∧ alGet l k = some a := by
  induction l generalizing i with
  | nil => simp [alIdx] at h
  | cons p l ih =>
    unfold alIdx at h
    rw [List.findIdx?_cons] at h
    by_cases hp : p.1 = k
    · simp only [hp, decide_true] at h
      simp only [if_true, Option.some.injEq] at h
      subst h
      exact ⟨p.2, by simp [← hp], by rw [alGet_cons, if_pos hp]⟩
    · simp only [hp, decide_false, Bool.false_eq_true, if_false, Option.map_eq_some_iff] at h
      obtain ⟨j, hj, rfl⟩ := h
      obtain ⟨a, h1, h2⟩ := ih hj
      exact ⟨a, by simpa using h1, by rw [alGet_cons, if_neg hp]; exact h2⟩
theorem alIdx_none {l : List (κ × α)} {k : κ} (h : alIdx l k = none) : alGet l k = none := by
  unfold alIdx at h
  unfold alGet
  rw [List.findIdx?_eq_none_iff] at h
  rw [Option.map_eq_none_iff, List.find?_eq_none]
  intro x hx
  have := h x hx
  simp at this ⊢; exact this
theorem alGet_modify {l : List (κ × α)} {k : κ} {i : Nat} (h : alIdx l k = some i) (a : α) (k' : κ) : alGet (l.modify i fun _ => (k, a)) k' = if k = k' then some a else alGet l k' := by
  induction l generalizing i with
  | nil => simp [alIdx] at h
  | cons p l ih =>
    unfold alIdx at h
    rw [List.findIdx?_cons] at h
    by_cases hp : p.1 = k
    · simp only [hp, decide_true] at h
      simp only [if_true, Option.some.injEq] at h
      subst h
      rw [List.modify_zero_cons, alGet_cons, alGet_cons, hp]
      by_cases h1 : k = k' <;> simp [h1]
    · simp only [hp, decide_false, Bool.false_eq_true, if_false, Option.map_eq_some_iff] at h
      obtain ⟨j, hj, rfl⟩ := h
      rw [List.modify_succ_cons, alGet_cons, alGet_cons, ih hj]
      by_cases h1 : p.1 = k'
      · rw [if_pos h1, if_pos h1, if_neg (by rintro rfl; exact hp h1)]
      · rw [if_neg h1, if_neg h1]
theorem alKeys_modify {l : List (κ × α)} {k : κ} {i : Nat} (h : alIdx l k = some i) (a : α) : (l.modify i fun _ => (k, a)).map (·.1) = l.map (·.1) := by
  induction l generalizing i with
  | nil => simp [alIdx] at h
  | cons p l ih =>
    unfold alIdx at h
    rw [List.findIdx?_cons] at h
    by_cases hp : p.1 = k
    · simp only [hp, decide_true] at h
      simp only [if_true, Option.some.injEq] at h
      subst h
      rw [List.modify_zero_cons, List.map_cons, List.map_cons, hp]
    · simp only [hp, decide_false, Bool.false_eq_true, if_false, Option.map_eq_some_iff] at h
      obtain ⟨j, hj, rfl⟩ := h
      rw [List.modify_succ_cons, List.map_cons, List.map_cons, ih hj]
theorem alGet_erase {l : List (κ × α)} {k : κ} {i : Nat} (h : alIdx l k = some i) (hn : (l.map (·.1)).Nodup) (k' : κ) : alGet (l.eraseIdx i) k' = if k = k' then none else alGet l k' := by
  induction l generalizing i with
  | nil => simp [alIdx] at h
  | cons p l ih =>
    unfold alIdx at h
    rw [List.findIdx?_cons] at h
    simp only [List.map_cons, List.nodup_cons] at hn
    by_cases hp : p.1 = k
    · simp only [hp, decide_true] at h
      simp only [if_true, Option.some.injEq] at h
      subst h
      rw [List.eraseIdx_cons_zero, alGet_cons]
      by_cases h1 : k = k'
      · subst h1
        rw [if_pos rfl]
        exact alGet_not (by rw [← hp]; exact hn.1)
      · rw [if_neg h1, if_neg (by rw [hp]; exact h1)]
    · simp only [hp, decide_false, Bool.false_eq_true, if_false, Option.map_eq_some_iff] at h
      obtain ⟨j, hj, rfl⟩ := h
      rw [List.eraseIdx_cons_succ, alGet_cons, alGet_cons, ih hj hn.2]
      by_cases h1 : p.1 = k'
      · rw [if_pos h1, if_pos h1, if_neg (by rintro rfl; exact hp h1)]
      · rw [if_neg h1, if_neg h1]

/-- The entries' numbers: no two the same, all below the map's own. -/
def BornOk (es : List MapEntry) (clock : Nat) : Prop := (es.map (·.born)).Nodup ∧ ∀ e ∈ es, e.born < clock
theorem BornOk.add {es : List MapEntry} {clock : Nat} (h : BornOk es clock) (k v : Value) : BornOk (es ++ [{ key := k, val := v, born := clock }]) (clock + 1) := by
  refine ⟨?_, fun e he => ?_⟩
  · rw [List.map_append, List.nodup_append]
    refine ⟨h.1, by simp, fun x hx y hy => ?_⟩
    obtain ⟨e, he, rfl⟩ := List.mem_map.1 hx
    simp only [List.map_cons, List.map_nil, List.mem_singleton] at hy
    subst hy
    exact Nat.ne_of_lt (h.2 e he)
  · rcases List.mem_append.1 he with he | he
    · exact Nat.lt_succ_of_lt (h.2 e he)
    · simp only [List.mem_singleton] at he
      subst he
      exact Nat.lt_succ_self _
theorem map_modify_same {A B : Type} (F : A → B) (x : A → A) (hx : ∀ e, F (x e) = F e) : ∀ (l : List A) (i : Nat), (l.modify i x).map F = l.map F
  | [], i => by simp
  | e :: l, 0 => by simp [hx]
  | e :: l, i + 1 => by rw [List.modify_succ_cons, List.map_cons, List.map_cons, map_modify_same F x hx l i]
theorem BornOk.modify {es : List MapEntry} {clock : Nat} (h : BornOk es clock) (x : MapEntry → MapEntry) (hx : ∀ e, (x e).born = e.born) (i : Nat) : BornOk (es.modify i x) clock := by
  have hm : (es.modify i x).map (·.born) = es.map (·.born) := map_modify_same _ x hx es i
  refine ⟨by rw [hm]; exact h.1, fun e he => ?_⟩
  have : e.born ∈ (es.modify i x).map (·.born) := List.mem_map.2 ⟨e, he, rfl⟩
  rw [hm] at this
  obtain ⟨e', h1, h2⟩ := List.mem_map.1 this
  rw [← h2]; exact h.2 e' h1
theorem BornOk.erase {es : List MapEntry} {clock : Nat} (h : BornOk es clock) (i : Nat) : BornOk (es.eraseIdx i) clock :=
  ⟨h.1.sublist ((List.eraseIdx_sublist es i).map _), fun e he => h.2 e ((List.eraseIdx_sublist es i).subset he)⟩

/-- A map's entries, as they stand. -/
def IsMapL (H : IHeap) (r : Nat) (f : κ → Value) (g : α → Value) (l : List (κ × α)) : Prop :=
  r < H.next ∧ (∃ es clock, H.get r = some (.map es clock) ∧ es.map (fun e => (e.key, e.val)) = (l.map fun p => (f p.1, g p.2)) ∧ BornOk es clock) ∧ (l.map (·.1)).Nodup
/-- A map, as a function of its keys. -/
def IsMap (H : IHeap) (r : Nat) (f : κ → Value) (g : α → Value) (m : κ → Option α) : Prop := ∃ l, IsMapL H r f g l ∧ ∀ k, alGet l k = m k

variable {P : Program} {kt : TypeId} {f : κ → Value} {g : α → Value} {H : IHeap} {r : Nat}

theorem findI_ok (hk : KeyOf P kt f) (k : κ) : ∀ (es : List MapEntry) (l : List (κ × α)) (i : Nat), es.map (fun e => (e.key, e.val)) = (l.map fun p => (f p.1, g p.2)) → findI P kt (f k) es i = some ((alIdx l k).map (· + i))
  | [], [], i, _ => rfl
  | [], _ :: _, _, h => by simp at h
  | _ :: _, [], _, h => by simp at h
  | e :: es, p :: l, i, h => by
    simp only [List.map_cons, List.cons.injEq, Prod.mk.injEq] at h
    obtain ⟨⟨h1, h2⟩, h3⟩ := h
    rw [findI, h1, hk.eq]
    unfold alIdx
    rw [List.findIdx?_cons]
    by_cases hp : p.1 = k
    · simp [hp]
    · have hp' : ¬ k = p.1 := fun h => hp h.symm
      simp only [hp, hp', decide_false, Bool.false_eq_true, if_false]
      rw [findI_ok hk k es l (i + 1) h3]
      unfold alIdx
      simp only [Option.map_map]
      congr 2
      funext x
      simp; omega

theorem keyOk_ok (hk : KeyOf P kt f) (k : κ) : ∀ {es : List MapEntry} {l : List (κ × α)}, es.map (fun e => (e.key, e.val)) = (l.map fun p => (f p.1, g p.2)) → keyOk P kt (f k) es = true := by
  intro es l h
  have hs : es.all (fun e => scal e.key) = true := by
    rw [List.all_eq_true]
    intro e he
    have : (e.key, e.val) ∈ l.map fun p => (f p.1, g p.2) := by rw [← h]; exact List.mem_map.2 ⟨e, he, rfl⟩
    obtain ⟨p, _, hp⟩ := List.mem_map.1 this
    simp only [Prod.mk.injEq] at hp
    rw [← hp.1]; exact hk.sc _
  simp only [keyOk, hk.sc, hs, hk.ck, Bool.and_self]

theorem IsMapL.look {l : List (κ × α)} (h : IsMapL H r f g l) (hk : KeyOf P kt f) (k : κ) (zero : Value) (ok : Bool) :
    lookR P H kt zero ok (.map (some r)) (f k) = some (match alGet l k with
      | some a => if ok then .tuple #[g a, .bool true] else g a
      | none => if ok then .tuple #[zero, .bool false] else zero) := by
  obtain ⟨_, ⟨es, clock, h1, h2, _⟩, _⟩ := h
  simp only [lookR, entriesI, h1, keyOk_ok hk k h2, if_true, findI_ok hk k es l 0 h2]
  cases hi : alIdx l k with
  | none => simp only [Option.map_none, alIdx_none hi]
  | some i =>
    obtain ⟨a, e1, e2⟩ := alIdx_some hi
    have : (es.map fun e => (e.key, e.val))[i]? = some (f k, g a) := by rw [h2, List.getElem?_map, e1]; rfl
    rw [List.getElem?_map] at this
    simp only [Option.map_some, Nat.add_zero, e2]
    cases he : es[i]? with
    | none => rw [he] at this; simp at this
    | some e =>
      rw [he] at this
      simp only [Option.map_some, Option.some.injEq, Prod.mk.injEq] at this
      simp only [this.2]
theorem IsMap.look {m : κ → Option α} (h : IsMap H r f g m) (hk : KeyOf P kt f) (k : κ) (zero : Value) (ok : Bool) :
    lookR P H kt zero ok (.map (some r)) (f k) = some (match m k with
      | some a => if ok then .tuple #[g a, .bool true] else g a
      | none => if ok then .tuple #[zero, .bool false] else zero) := by
  obtain ⟨l, h1, h2⟩ := h
  rw [h1.look hk, h2]

def alPut (l : List (κ × α)) (k : κ) (a : α) : List (κ × α) := match alIdx l k with
  | some i => l.modify i fun _ => (k, a)
  | none => l ++ [(k, a)]
def alDel (l : List (κ × α)) (k : κ) : List (κ × α) := match alIdx l k with
  | some i => l.eraseIdx i
  | none => l
theorem alGet_put (l : List (κ × α)) (k : κ) (a : α) (k' : κ) : alGet (alPut l k a) k' = if k = k' then some a else alGet l k' := by
  unfold alPut
  cases h : alIdx l k with
  | none => exact alGet_append l k k' a (alIdx_none h)
  | some i => exact alGet_modify h a k'
theorem alGet_del {l : List (κ × α)} (hn : (l.map (·.1)).Nodup) (k k' : κ) : alGet (alDel l k) k' = if k = k' then none else alGet l k' := by
  unfold alDel
  cases h : alIdx l k with
  | none =>
    simp only
    by_cases h1 : k = k'
    · rw [if_pos h1, ← h1]; exact alIdx_none h
    · rw [if_neg h1]
  | some i => exact alGet_erase h hn k'
theorem alPut_nodup {l : List (κ × α)} (hn : (l.map (·.1)).Nodup) (k : κ) (a : α) : ((alPut l k a).map (·.1)).Nodup := by
  unfold alPut
  cases h : alIdx l k with
  | none =>
    simp only [List.map_append, List.map_cons, List.map_nil]
    have := alGet_none (alIdx_none h)
    rw [List.nodup_append]
    exact ⟨hn, by simp, fun x hx y hy => by simp at hy; subst hy; rintro rfl; exact this hx⟩
  | some i => simp only; rw [alKeys_modify h]; exact hn
theorem eraseIdx_mapf {A B : Type} (F : A → B) : ∀ (l : List A) (i : Nat), (l.eraseIdx i).map F = (l.map F).eraseIdx i
  | [], i => by simp
  | e :: l, 0 => by simp
  | e :: l, i + 1 => by rw [List.eraseIdx_cons_succ, List.map_cons, List.map_cons, List.eraseIdx_cons_succ, eraseIdx_mapf F l i]
theorem alDel_nodup {l : List (κ × α)} (hn : (l.map (·.1)).Nodup) (k : κ) : ((alDel l k).map (·.1)).Nodup := by
  unfold alDel
  cases h : alIdx l k with
  | none => exact hn
  | some i =>
    simp only
    rw [eraseIdx_mapf]
    exact hn.sublist (List.eraseIdx_sublist _ _)

theorem modify_mapf {A B : Type} (F : A → B) (x : A → A) (y : B) (hx : ∀ e, F (x e) = y) : ∀ (l : List A) (i : Nat), (l.modify i x).map F = (l.map F).modify i fun _ => y
  | [], i => by simp
  | e :: l, 0 => by simp [hx]
  | e :: l, i + 1 => by rw [List.modify_succ_cons, List.map_cons, List.map_cons, List.modify_succ_cons, modify_mapf F x y hx l i]

theorem IsMapL.put {l : List (κ × α)} (h : IsMapL H r f g l) (hk : KeyOf P kt f) (k : κ) (a : α) :
    ∃ o, putR P H kt (.map (some r)) (f k) (g a) = some (undef, H.set r o) ∧ IsMapL (H.set r o) r f g (alPut l k a) := by
  obtain ⟨h0, ⟨es, clock, h1, h2, hb⟩, hn⟩ := h
  simp only [putR, h1, keyOk_ok hk k h2, if_true, findI_ok hk k es l 0 h2]
  have hnp := alPut_nodup hn k a
  cases hi : alIdx l k with
  | none =>
    simp only [Option.map_none]
    refine ⟨_, rfl, h0, ⟨_, _, by rw [YW, if_pos rfl], ?_⟩, hnp⟩
    exact ⟨by simp only [alPut, hi, List.map_append, h2, List.map_cons, List.map_nil], hb.add _ _⟩
  | some i =>
    obtain ⟨a', e1, e2⟩ := alIdx_some hi
    have : (es.map fun e => (e.key, e.val))[i]? = some (f k, g a') := by rw [h2, List.getElem?_map, e1]; rfl
    rw [List.getElem?_map] at this
    simp only [Option.map_some, Nat.add_zero]
    cases he : es[i]? with
    | none => rw [he] at this; simp at this
    | some e =>
      rw [he] at this
      simp only [Option.map_some, Option.some.injEq, Prod.mk.injEq] at this
      simp only [Option.map_some, Option.getD_some, this.1, hk.sb, if_true]
      refine ⟨_, rfl, h0, ⟨_, _, by rw [YW, if_pos rfl], ?_⟩, hnp⟩
      refine ⟨?_, hb.modify (fun e => { e with key := f k, val := g a }) (fun _ => rfl) _⟩
      simp only [alPut, hi]
      rw [modify_mapf (fun e : MapEntry => (e.key, e.val)) _ (f k, g a) (fun _ => rfl), h2, modify_mapf (fun p : κ × α => (f p.1, g p.2)) _ (f k, g a) (fun _ => rfl)]
theorem IsMapL.del {l : List (κ × α)} (h : IsMapL H r f g l) (hk : KeyOf P kt f) (k : κ) :
    ∃ o, delR P H kt (.map (some r)) (f k) = some (.tuple #[], H.set r o) ∧ IsMapL (H.set r o) r f g (alDel l k) := by
  obtain ⟨h0, ⟨es, clock, h1, h2, hb⟩, hn⟩ := h
  simp only [delR, h1, keyOk_ok hk k h2, if_true, findI_ok hk k es l 0 h2]
  have hnp := alDel_nodup hn k
  cases hi : alIdx l k with
  | none =>
    simp only [Option.map_none]
    refine ⟨_, rfl, h0, ⟨_, _, by rw [YW, if_pos rfl], ?_⟩, hnp⟩
    exact ⟨by simp only [alDel, hi, h2], hb⟩
  | some i =>
    simp only [Option.map_some, Nat.add_zero]
    refine ⟨_, rfl, h0, ⟨_, _, by rw [YW, if_pos rfl], ?_⟩, hnp⟩
    exact ⟨by simp only [alDel, hi]; rw [eraseIdx_mapf, h2, eraseIdx_mapf], hb.erase _⟩
theorem IsMap.put {m : κ → Option α} (h : IsMap H r f g m) (hk : KeyOf P kt f) (k : κ) (a : α) :
    ∃ o, putR P H kt (.map (some r)) (f k) (g a) = some (undef, H.set r o) ∧ IsMap (H.set r o) r f g fun k' => if k = k' then some a else m k' := by
  obtain ⟨l, h1, h2⟩ := h
  obtain ⟨o, e1, e2⟩ := h1.put hk k a
  exact ⟨o, e1, _, e2, fun k' => by rw [alGet_put, h2]⟩
theorem IsMap.del {m : κ → Option α} (h : IsMap H r f g m) (hk : KeyOf P kt f) (k : κ) :
    ∃ o, delR P H kt (.map (some r)) (f k) = some (.tuple #[], H.set r o) ∧ IsMap (H.set r o) r f g fun k' => if k = k' then none else m k' := by
  obtain ⟨l, h1, h2⟩ := h
  obtain ⟨o, e1, e2⟩ := h1.del hk k
  exact ⟨o, e1, _, e2, fun k' => by rw [alGet_del h1.2.2, h2]⟩
omit [DecidableEq κ] in
theorem IsMapL.same {H' : IHeap} {l : List (κ × α)} (h : IsMapL H r f g l) (hn : H.next ≤ H'.next) (hg : H'.get r = H.get r) : IsMapL H' r f g l := by
  obtain ⟨h0, ⟨es, clock, h1, h2, hb⟩, h3⟩ := h
  exact ⟨Nat.lt_of_lt_of_le h0 hn, ⟨es, clock, hg.trans h1, h2, hb⟩, h3⟩
theorem IsMap.same {H' : IHeap} {m : κ → Option α} (h : IsMap H r f g m) (hn : H.next ≤ H'.next) (hg : H'.get r = H.get r) : IsMap H' r f g m := by
  obtain ⟨l, h1, h2⟩ := h
  exact ⟨l, h1.same hn hg, h2⟩
theorem IsMap.le {H' : IHeap} {m : κ → Option α} (h : IsMap H r f g m) (hl : H.le H') : IsMap H' r f g m := h.same hl.next (hl.get r (by obtain ⟨l, h1, _⟩ := h; exact h1.1))
theorem IsMap.lt {m : κ → Option α} (h : IsMap H r f g m) : r < H.next := by obtain ⟨l, h1, _⟩ := h; exact h1.1
theorem IsMap.new (H : IHeap) (f : κ → Value) (g : α → Value) : IsMap (H.alloc (.map [] 0)) H.next f g fun _ => none :=
  ⟨[], ⟨by simp [YX], ⟨[], 0, by rw [YV, if_pos rfl], rfl, List.nodup_nil, by simp⟩, by simp⟩, fun _ => rfl⟩

end
theorem IsMap.ne_cells {κ α : Type} [DecidableEq κ] {f : κ → Value} {g : α → Value} {m : κ → Option α} {H : IHeap} {p r : Nat} {cs : List Value} {ro : Bool} (h : IsMap H r f g m) (hp : H.get p = some (.cells cs ro)) : p ≠ r := by
  obtain ⟨l, ⟨_, ⟨es, clock, h1, _⟩, _⟩, _⟩ := h
  rintro rfl
  rw [h1] at hp; cases hp
end Go.Proofs.YtndndcdblfejnaaGreatRI
