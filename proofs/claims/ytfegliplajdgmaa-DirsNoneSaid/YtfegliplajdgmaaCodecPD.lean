/- What is read is what was laid, and the other way about: plain laws. -/
import Derived.Test.YtfegliplajdgmaaCodecRD
namespace Go.Proofs.YtfegliplajdgmaaI
set_option linter.unusedSimpArgs false
set_option linter.unusedVariables false
open Go

theorem takeInt_inv {r : Rd} {s' : List UInt8} {n : Int} (h : takeInt r = (some s', n)) : r = some (encI n ++ s') := by
  cases r with
  | none => simp [takeInt] at h
  | some s =>
    simp only [takeInt] at h
    cases hd : dec 0 0 s with
    | none => rw [hd] at h; simp at h
    | some x =>
      obtain ⟨u, k⟩ := x
      rw [hd] at h
      simp only [Prod.mk.injEq, Option.some.injEq] at h
      obtain ⟨rfl, rfl⟩ := h
      rw [encI_dec hd, List.take_append_drop]
theorem takeText_inv {r : Rd} {s' t : List UInt8} (h : takeText r = (some s', t)) : r = some (encI t.length ++ t ++ s') := by
  unfold takeText at h
  rcases hx : takeInt r with ⟨x, n⟩
  rw [hx] at h
  cases x with
  | none => simp [takeN] at h
  | some s =>
    simp only [takeN] at h
    by_cases hc : n < 0 ∨ (s.length : Int) < n
    · rw [if_pos hc] at h; simp at h
    · rw [if_neg hc] at h
      simp only [Prod.mk.injEq, Option.some.injEq] at h
      obtain ⟨rfl, rfl⟩ := h
      rw [takeInt_inv hx, List.append_assoc, List.take_append_drop]
      have : ((List.take n.toNat s).length : Int) = n := by rw [List.length_take]; omega
      rw [this]
theorem takeMany_inv {α : Type} {one : Rd → Rd × α} {f : α → List UInt8} {p : α → Prop} (h1 : ∀ r s' a, one r = (some s', a) → r = some (f a ++ s') ∧ p a) :
    ∀ (k : Nat) (acc l : List α) (r : Rd) (s' : List UInt8), takeMany one k acc r = (some s', l) → ∃ l2, l = acc ++ l2 ∧ l2.length = k ∧ r = some ((l2.map f).flatten ++ s') ∧ ∀ a ∈ l2, p a
  | 0, acc, l, r, s', h => by
    simp only [takeMany, Prod.mk.injEq] at h
    obtain ⟨rfl, rfl⟩ := h
    exact ⟨[], by simp, rfl, by simp, by simp⟩
  | k + 1, acc, l, r, s', h => by
    rw [takeMany] at h
    rcases hx : one r with ⟨x, a⟩
    rw [hx] at h
    cases x with
    | none => simp at h
    | some s =>
      simp only at h
      obtain ⟨e1, pa⟩ := h1 r s a hx
      obtain ⟨l2, rfl, e3, e4, e5⟩ := takeMany_inv h1 k _ l _ s' h
      simp only [Option.some.injEq] at e4
      refine ⟨a :: l2, by simp, by simp [e3], ?_, ?_⟩
      · rw [e1, e4]; simp
      · intro b hb
        rcases List.mem_cons.1 hb with rfl | hb
        · exact pa
        · exact e5 b hb
theorem takeList_inv {α : Type} {one : Rd → Rd × α} {f : α → List UInt8} {p : α → Prop} (h1 : ∀ r s' a, one r = (some s', a) → r = some (f a ++ s') ∧ p a)
    {l : List α} {r : Rd} {s' : List UInt8} (h : takeList one r = (some s', l)) : r = some (encI l.length ++ (l.map f).flatten ++ s') ∧ ∀ a ∈ l, p a := by
  unfold takeList at h
  rcases hx : takeInt r with ⟨x, n⟩
  rw [hx] at h
  cases x with
  | none => simp at h
  | some s =>
    simp only at h
    by_cases hc : n < 0 ∨ (s.length : Int) < n
    · rw [if_pos hc] at h; simp at h
    · rw [if_neg hc] at h
      obtain ⟨l2, e1, e2, e3, e4⟩ := takeMany_inv h1 _ _ _ _ _ h
      simp only [List.nil_append] at e1
      subst e1
      simp only [Option.some.injEq] at e3
      refine ⟨?_, e4⟩
      have : (l.length : Int) = n := by omega
      rw [takeInt_inv hx, this, e3, List.append_assoc]

theorem takeInt_lay {n : Int} (h1 : -9223372036854775808 ≤ n) (h2 : n < 9223372036854775808) (t : List UInt8) : takeInt (some (encI n ++ t)) = (some t, n) := by
  simp only [takeInt, dec_encI h1 h2, List.drop_left, unzz_zz]
theorem takeText_lay {x : List UInt8} (hx : x.length ≤ 1000000000) (t : List UInt8) : takeText (some (encI x.length ++ x ++ t)) = (some t, x) := by
  unfold takeText
  rw [List.append_assoc, takeInt_lay (by omega) (by omega)]
  simp only [takeN]
  rw [if_neg (by simp; omega)]
  simp
theorem takeMany_lay {α : Type} {one : Rd → Rd × α} {f : α → List UInt8} {p : α → Prop} (h1 : ∀ a t, p a → one (some (f a ++ t)) = (some t, a)) :
    ∀ (l acc : List α) (t : List UInt8), (∀ a ∈ l, p a) → takeMany one l.length acc (some ((l.map f).flatten ++ t)) = (some t, acc ++ l)
  | [], acc, t, _ => by simp [takeMany]
  | a :: l, acc, t, h => by
    rw [List.length_cons, takeMany, List.map_cons, List.flatten_cons, List.append_assoc, h1 a _ (h a (by simp))]
    simp only
    rw [takeMany_lay h1 l (acc ++ [a]) t fun b hb => h b (by simp [hb])]
    simp
theorem takeList_lay {α : Type} {one : Rd → Rd × α} {f : α → List UInt8} {p : α → Prop} (h1 : ∀ a t, p a → one (some (f a ++ t)) = (some t, a)) (hne : ∀ a, f a ≠ [])
    {l : List α} (hl : l.length ≤ 1000000000) (h : ∀ a ∈ l, p a) (t : List UInt8) : takeList one (some (encI l.length ++ (l.map f).flatten ++ t)) = (some t, l) := by
  have hlen : l.length ≤ ((l.map f).flatten ++ t).length := by
    have : ∀ l : List α, l.length ≤ ((l.map f).flatten).length := fun l => by
      induction l with
      | nil => simp
      | cons a l ih =>
        have := List.length_pos_iff.2 (hne a)
        simp only [List.length_cons, List.map_cons, List.flatten_cons, List.length_append]; omega
    have := this l
    rw [List.length_append]; omega
  unfold takeList
  rw [List.append_assoc, takeInt_lay (by omega) (by omega)]
  simp only
  rw [if_neg (by omega), Int.toNat_natCast, takeMany_lay h1 l [] t h]
  simp

def okI (n : Int) : Prop := -9223372036854775808 ≤ n ∧ n < 9223372036854775808
theorem ints_inv : ∀ r s' a, takeInt r = (some s', a) → r = some (encI a ++ s') ∧ okI a := fun _ _ _ h => ⟨takeInt_inv h, takeInt_len h⟩
theorem texts_inv : ∀ r s' (a : List UInt8), takeText r = (some s', a) → r = some ((encI a.length ++ a) ++ s') ∧ True := fun _ _ _ h => ⟨takeText_inv h, trivial⟩
theorem ints_lay : ∀ a t, okI a → takeInt (some (encI a ++ t)) = (some t, a) := fun _ t h => takeInt_lay h.1 h.2 t
theorem texts_lay : ∀ (a t : List UInt8), a.length ≤ 1000000000 → takeText (some ((encI a.length ++ a) ++ t)) = (some t, a) := fun _ t h => takeText_lay h t

theorem strV_data (x : ByteArray) : .string x = strV x.data.toList := by simp [strV]

end Go.Proofs.YtfegliplajdgmaaI
