/- Blocks of one's own: what a call may turn. -/
import Derived.Test.YtafnkmiggmfbdaaSlW
namespace Go.Proofs.YtafnkmiggmfbdaaI
set_option linter.unusedSimpArgs false
set_option linter.unusedVariables false
open Go

/-- All but B (and what is new) is as it was. -/
structure Fr (B : Nat → Prop) (H H' : IHeap) : Prop where
  next : H.next ≤ H'.next
  get : ∀ b, b < H.next → ¬ B b → H'.get b = H.get b
theorem Fr.refl (B : Nat → Prop) (H : IHeap) : Fr B H H := ⟨Nat.le_refl _, fun _ _ _ => rfl⟩
theorem IHeap.le.fr {H H' : IHeap} (h : H.le H') (B : Nat → Prop) : Fr B H H' := ⟨h.next, fun b hb _ => h.get b hb⟩
theorem Fr.trans {B C : Nat → Prop} {H H1 H2 : IHeap} (h : Fr B H H1) (k : Fr C H1 H2) (hc : ∀ b, C b → B b ∨ H.next ≤ b) : Fr B H H2 :=
  ⟨Nat.le_trans h.next k.next, fun b hb hn => (k.get b (Nat.lt_of_lt_of_le hb h.next) fun hx => (hc b hx).elim hn (fun hx => Nat.not_lt.2 hx hb)).trans (h.get b hb hn)⟩
theorem Fr.trans_le {B : Nat → Prop} {H H1 H2 : IHeap} (h : Fr B H H1) (k : H1.le H2) : Fr B H H2 := h.trans (k.fr fun _ => False) (fun _ hb => hb.elim)
theorem IHeap.le.trans_fr {B : Nat → Prop} {H H1 H2 : IHeap} (h : H.le H1) (k : Fr B H1 H2) : Fr B H H2 := (h.fr B).trans k fun _ hb => .inl hb
theorem Fr.weak {B C : Nat → Prop} {H H' : IHeap} (h : Fr B H H') (hc : ∀ b, B b → C b) : Fr C H H' := ⟨h.next, fun b hb hn => h.get b hb fun hx => hn (hc b hx)⟩
/-- But for what is new. -/
theorem Fr.le {B : Nat → Prop} {H H' : IHeap} (h : Fr B H H') (hb : ∀ b, B b → H.next ≤ b) : H.le H' := ⟨h.next, fun b hb' => h.get b hb' fun hx => Nat.not_lt.2 (hb b hx) hb'⟩
theorem Fr.set {B : Nat → Prop} {H H' : IHeap} (h : Fr B H H') {i : Nat} (hi : B i ∨ H.next ≤ i) (o : IObj) : Fr B H (H'.set i o) := ⟨h.next, fun b hb hn => by
  rw [YW, if_neg (by rintro rfl; rcases hi with hi | hi; exact hn hi; omega)]; exact h.get b hb hn⟩
theorem Fr.alloc {B : Nat → Prop} {H H' : IHeap} (h : Fr B H H') (o : IObj) : Fr B H (H'.alloc o) := h.trans_le (H'.le_alloc o)
theorem IHeap.upd.fr {S : List Nat} {H H' : IHeap} (h : IHeap.upd S H H') {B : Nat → Prop} (hs : ∀ b ∈ S, B b) : Fr B H H' := ⟨h.next, fun b hb hn => h.get b hb fun hm => hn (hs b hm)⟩

theorem row_at {cs r : List Value} {p n : Nat} (h : (cs.drop p).take n = r) (j : Nat) (hj : j < n) : cs[p + j]? = r[j]? := by
  rw [← h, List.getElem?_take, if_pos hj, List.getElem?_drop]
/-- A slice's rows, in a block of D. -/
def SlD (D : Nat → Prop) (H : IHeap) (size : Nat) (v : Value) (rows : List (List Value)) : Prop :=
  SlR H size v rows ∧ ∀ b o n c, v = .slice (some ⟨b, o, none⟩) n c → rows ≠ [] → D b
theorem SlD.sl {D : Nat → Prop} {H : IHeap} {size : Nat} {v : Value} {rows : List (List Value)} (h : SlD D H size v rows) : SlR H size v rows := h.1
theorem SlD.weak {D D' : Nat → Prop} {H : IHeap} {size : Nat} {v : Value} {rows : List (List Value)} (h : SlD D H size v rows) (hd : ∀ b, D b → D' b) : SlD D' H size v rows := ⟨h.1, fun b o n c e hr => hd b (h.2 b o n c e hr)⟩
theorem SlD.fr {B D : Nat → Prop} {H H' : IHeap} {size : Nat} {v : Value} {rows : List (List Value)} (h : SlD D H size v rows) (k : Fr B H H') (hd : ∀ b, D b → ¬ B b) : SlD D H' size v rows := by
  obtain ⟨⟨a, cap, rfl, h2⟩, h3⟩ := h
  refine ⟨⟨a, cap, rfl, fun hr => ?_⟩, h3⟩
  obtain ⟨b, o, cs, ro, rfl, hb, hget, hrow⟩ := h2 hr
  exact ⟨b, o, cs, ro, rfl, Nat.lt_of_lt_of_le hb k.next, (k.get b hb (hd b (h3 b o _ _ rfl hr))).trans hget, hrow⟩
theorem SlD.le {D : Nat → Prop} {H H' : IHeap} {size : Nat} {v : Value} {rows : List (List Value)} (h : SlD D H size v rows) (k : H.le H') : SlD D H' size v rows := ⟨h.1.le k, h.2⟩
theorem SlR.slD {H : IHeap} {size : Nat} {v : Value} {rows : List (List Value)} (h : SlR H size v rows) : SlD (fun b => b < H.next) H size v rows := by
  refine ⟨h, fun b o n c e hr => ?_⟩
  obtain ⟨a, cap, rfl, h2⟩ := h
  obtain ⟨b', o', cs, ro, rfl, hb, _⟩ := h2 hr
  simp only [Value.slice.injEq, Option.some.injEq, Addr.mk.injEq] at e
  obtain ⟨⟨rfl, -⟩, -⟩ := e
  exact hb
theorem Own.slD {H : IHeap} {B size : Nat} {v : Value} {rows : List (List Value)} (h : Own H B size v rows) : SlD (fun b => B ≤ b ∧ b < H.next) H size v rows := by
  refine ⟨h.slr, fun b o n c e _ => ?_⟩
  obtain ⟨_, blk, h1, h2, rfl, _⟩ := h
  simp only [Value.slice.injEq, Option.some.injEq, Addr.mk.injEq] at e
  obtain ⟨⟨rfl, -⟩, -⟩ := e
  exact ⟨h1, h2⟩
theorem Grow.slD {H : IHeap} {B size : Nat} {v : Value} {rows : List (List Value)} (h : Grow H B size v rows) : SlD (fun b => B ≤ b ∧ b < H.next) H size v rows := by
  rcases h with ⟨rfl, rfl⟩ | h
  · exact ⟨Grow.slr (B := B) (.inl ⟨rfl, rfl⟩), fun _ _ _ _ _ h => absurd rfl h⟩
  · exact h.slD

end Go.Proofs.YtafnkmiggmfbdaaI
