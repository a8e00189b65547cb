/- What stays of a heap: blocks that are known to stay. -/
import Derived.Test.YtdfjicnjcibdaaaSlW
namespace Go.Proofs.YtdfjicnjcibdaaaI
set_option linter.unusedSimpArgs false
set_option linter.unusedVariables false
open Go

def Fresh (n : Nat) (v : Value) : Prop := ∀ b o m c, v = .slice (some ⟨b, o, none⟩) m c → n ≤ b
theorem Fresh.nil (n : Nat) : Fresh n (.slice none 0 0) := fun b o m c e => by simp at e
theorem Fresh.weak {n m : Nat} {v : Value} (h : Fresh m v) (hn : n ≤ m) : Fresh n v := fun b o x c e => Nat.le_trans hn (h b o x c e)
/-- Where a slice lies. -/
def Blk (n m : Nat) (v : Value) : Prop := ∀ b o l c, v = .slice (some ⟨b, o, none⟩) l c → n ≤ b ∧ b < m
theorem Blk.weak {n n' m m' : Nat} {v : Value} (h : Blk n m v) (h1 : n' ≤ n) (h2 : m ≤ m') : Blk n' m' v := fun b o l c e => by have := h b o l c e; omega
theorem Blk.nil (n m : Nat) : Blk n m (.slice none 0 0) := fun b o l c e => by simp at e
theorem Grow.blk {H : IHeap} {B size : Nat} {v : Value} {rows : List (List Value)} (h : Grow H B size v rows) : Blk B H.next v := by
  intro b o m cc e
  rcases h with ⟨_, rfl⟩ | ⟨_, blk, q1, q2, rfl, _⟩
  · simp at e
  · simp only [Value.slice.injEq, Option.some.injEq, Addr.mk.injEq] at e
    omega
def inB (u : Value) (b : Nat) : Prop := ∃ o m c, u = .slice (some ⟨b, o, none⟩) m c ∧ m ≠ 0
theorem inB_nil (b : Nat) : ¬ inB (.slice none 0 0) b := fun ⟨_, _, _, e, _⟩ => by simp at e
theorem SlW.in {H : IHeap} {size : Nat} {u : Value} {rows : List (List Value)} (h : SlW H size u rows) {b : Nat} (hb : inB u b) : b < H.next := by
  obtain ⟨o, m, c, rfl, hm⟩ := hb
  obtain ⟨⟨a', cap', e, h2⟩, _⟩ := h
  simp only [Value.slice.injEq] at e
  obtain ⟨rfl, rfl, rfl⟩ := e
  obtain ⟨b', o', cs, ro, e, hb, _⟩ := h2 (fun e => hm (by rw [e]; rfl))
  simp only [Option.some.injEq, Addr.mk.injEq] at e
  omega
theorem SlW.kept {H H' : IHeap} {size : Nat} {u : Value} {rows : List (List Value)} (h : SlW H size u rows) (hn : H.next ≤ H'.next) (hk : ∀ b, inB u b → H'.get b = H.get b) : SlW H' size u rows := by
  obtain ⟨⟨a, cap, rfl, h2⟩, h3⟩ := h
  refine ⟨⟨a, cap, rfl, fun hr => ?_⟩, h3⟩
  obtain ⟨b, o, cs, ro, rfl, hb, hget, hrow⟩ := h2 hr
  exact ⟨b, o, cs, ro, rfl, by omega, (hk b ⟨o, _, _, rfl, fun e => hr (List.length_eq_zero_iff.1 e)⟩).trans hget, hrow⟩
theorem Blk.in {n m : Nat} {u : Value} (h : Blk n m u) {b : Nat} (hb : inB u b) : n ≤ b ∧ b < m := by
  obtain ⟨o, l, c, e, _⟩ := hb
  exact h b o l c e
theorem Fresh.in {n : Nat} {u : Value} (h : Fresh n u) {b : Nat} (hb : inB u b) : n ≤ b := by
  obtain ⟨o, l, c, e, _⟩ := hb
  exact h b o l c e
/-- What is known of S stays. -/
def keptS (S : Nat → Prop) (H H' : IHeap) : Prop := H.next ≤ H'.next ∧ ∀ b, S b → H'.get b = H.get b
theorem keptS.trans {S : Nat → Prop} {A B C : IHeap} (h : keptS S A B) (k : keptS S B C) : keptS S A C := ⟨Nat.le_trans h.1 k.1, fun b hb => (k.2 b hb).trans (h.2 b hb)⟩

end Go.Proofs.YtdfjicnjcibdaaaI
