/- Directories: plain laws. -/
import Derived.Test.YtfegliplajdgmaaInsW2
import Derived.Test.YtfegliplajdgmaaCodecPD
namespace Go.Proofs.YtfegliplajdgmaaI
set_option linter.unusedSimpArgs false
set_option linter.unusedVariables false
open Go

/-! ### the order of texts -/
theorem bl_irrefl : ∀ x : List UInt8, Op.bytesLess x x = false
  | [] => rfl
  | a :: x => by
    rw [Op.bytesLess, bl_irrefl x]
    simp [UInt8.lt_irrefl]
theorem bl_trans : ∀ {x y z : List UInt8}, Op.bytesLess x y = true → Op.bytesLess y z = true → Op.bytesLess x z = true
  | [], [], _, h, _ => by cases h
  | [], _ :: _, [], _, h => by cases h
  | [], _ :: _, _ :: _, _, _ => rfl
  | _ :: _, [], _, h, _ => by cases h
  | _ :: _, _ :: _, [], _, h => by cases h
  | a :: x, b :: y, c :: z, h, k => by
    simp only [Op.bytesLess, Bool.or_eq_true, decide_eq_true_eq, Bool.and_eq_true, beq_iff_eq] at h k ⊢
    rcases h with h | ⟨rfl, h⟩
    · rcases k with k | ⟨rfl, k⟩
      · exact .inl (UInt8.lt_trans h k)
      · exact .inl h
    · rcases k with k | ⟨rfl, k⟩
      · exact .inl k
      · exact .inr ⟨rfl, bl_trans h k⟩
theorem bl_total : ∀ x y : List UInt8, Op.bytesLess x y = true ∨ x = y ∨ Op.bytesLess y x = true
  | [], [] => .inr (.inl rfl)
  | [], _ :: _ => .inl rfl
  | _ :: _, [] => .inr (.inr rfl)
  | a :: x, b :: y => by
    simp only [Op.bytesLess, Bool.or_eq_true, decide_eq_true_eq, Bool.and_eq_true, beq_iff_eq, List.cons.injEq]
    rcases Nat.lt_trichotomy a.toNat b.toNat with h | h | h
    · exact .inl (.inl (UInt8.lt_iff_toNat_lt.2 h))
    · have e := UInt8.toNat_inj.1 h
      subst e
      rcases bl_total x y with h | h | h
      · exact .inl (.inr ⟨rfl, h⟩)
      · exact .inr (.inl ⟨rfl, h⟩)
      · exact .inr (.inr (.inr ⟨rfl, h⟩))
    · exact .inr (.inr (.inl (UInt8.lt_iff_toNat_lt.2 h)))
theorem bl_asymm {x y : List UInt8} (h : Op.bytesLess x y = true) : Op.bytesLess y x = false := by
  cases hc : Op.bytesLess y x with
  | false => rfl
  | true => have := bl_trans h hc; rw [bl_irrefl] at this; cases this
theorem bl_ne {x y : List UInt8} (h : Op.bytesLess x y = true) : x ≠ y := by
  rintro rfl; rw [bl_irrefl] at h; cases h

/-! ### entries -/
structure EntD where
  nm : List UInt8
  ino : Int
  deriving DecidableEq
def rowE (e : EntD) : List Value := [strV e.nm, .int .i64 e.ino]
def eV (e : EntD) : Value := .agg #[strV e.nm, .int .i64 e.ino]
def SortedE (L : List EntD) : Prop := L.Pairwise fun a b => Op.bytesLess a.nm b.nm = true
def nameB (s : List UInt8) : Bool := decide (s ≠ [] ∧ s.length ≤ 28 ∧ s ≠ [46] ∧ s ≠ [46, 46] ∧ ¬ (47 : UInt8) ∈ s ∧ ¬ (0 : UInt8) ∈ s)
/-- Where a name stands, or would. -/
def posE (s : List UInt8) : List EntD → Nat
  | [] => 0
  | e :: L => if Op.bytesLess e.nm s then posE s L + 1 else 0
def thereE (L : List EntD) (s : List UInt8) : Bool := match L[posE s L]? with | some e => decide (e.nm = s) | none => false
theorem posE_le (s : List UInt8) : ∀ L : List EntD, posE s L ≤ L.length
  | [] => Nat.le_refl _
  | e :: L => by
    have := posE_le s L
    simp only [posE, List.length_cons]
    split <;> omega
theorem posE_lt {s : List UInt8} : ∀ {L : List EntD} {i : Nat} {e : EntD}, i < posE s L → L[i]? = some e → Op.bytesLess e.nm s = true
  | [], i, e, h, _ => by simp [posE] at h
  | w :: L, i, e, h, he => by
    simp only [posE] at h
    split at h
    · cases i with
      | zero =>
        simp only [List.getElem?_cons_zero, Option.some.injEq] at he
        subst he; assumption
      | succ i => exact posE_lt (L := L) (i := i) (by omega) he
    · omega
theorem posE_at {s : List UInt8} : ∀ {L : List EntD} {e : EntD}, L[posE s L]? = some e → Op.bytesLess e.nm s = false
  | [], e, h => by simp at h
  | w :: L, e, h => by
    simp only [posE] at h
    split at h
    · exact posE_at (L := L) (by simpa using h)
    · rename_i hn
      simp only [List.getElem?_cons_zero, Option.some.injEq] at h
      subst h; simpa using hn
theorem posE_ge {s : List UInt8} {L : List EntD} (hs : SortedE L) {i : Nat} {e : EntD} (hi : posE s L ≤ i) (he : L[i]? = some e) : Op.bytesLess e.nm s = false := by
  obtain ⟨hil, hie⟩ := List.getElem?_eq_some_iff.1 he
  have hp : L[posE s L]? = some L[posE s L] := List.getElem?_eq_getElem (by omega)
  have h0 := posE_at hp
  by_cases e0 : posE s L = i
  · subst e0; rw [hp] at he; injection he with he; rw [← he]; exact h0
  · have := List.pairwise_iff_getElem.1 hs (posE s L) i (by omega) hil (by omega)
    rw [hie] at this
    cases hb : Op.bytesLess e.nm s with
    | false => rfl
    | true => rw [bl_trans this hb] at h0; cases h0
theorem there_at {L : List EntD} {s : List UInt8} (h : thereE L s = true) : ∃ ino, L[posE s L]? = some ⟨s, ino⟩ := by
  unfold thereE at h
  cases hq : L[posE s L]? with
  | none => rw [hq] at h; cases h
  | some e =>
    rw [hq] at h
    simp only [decide_eq_true_eq] at h
    exact ⟨e.ino, by rw [← h]⟩
def inoE (L : List EntD) (s : List UInt8) : Int := match L[posE s L]? with | some e => e.ino | none => 0
def addE (L : List EntD) (s : List UInt8) (ino : Int) : List EntD × Int :=
  if ino < 1 ∨ 256 ≤ ino then (L, 1) else if nameB s = false then (L, 15) else if thereE L s = true then (L, 6) else (L.take (posE s L) ++ ⟨s, ino⟩ :: L.drop (posE s L), 0)
def remE (L : List EntD) (s : List UInt8) : List EntD × Int × Int := if thereE L s = true then (L.eraseIdx (posE s L), inoE L s, 0) else (L, 0, 7)
def lookE (L : List EntD) (s : List UInt8) : Int × Int := if thereE L s = true then (inoE L s, 0) else (0, 7)
def encE (e : EntD) : List UInt8 := encI e.nm.length ++ e.nm ++ encI e.ino
def textE (L : List EntD) : List UInt8 := encI L.length ++ (L.map encE).flatten
def okE (e : EntD) : Prop := nameB e.nm = true ∧ 1 ≤ e.ino ∧ e.ino < 256

theorem addE_sorted {L : List EntD} {s : List UInt8} {ino : Int} (hs : SortedE L) : SortedE (addE L s ino).1 := by
  unfold addE
  split
  · exact hs
  · rename_i h1
    split
    · exact hs
    · split
      · exact hs
      · rename_i h3
        have hd := hs
        unfold SortedE at hd ⊢
        rw [← List.take_append_drop (posE s L) L, List.pairwise_append] at hd
        rw [List.pairwise_append]
        refine ⟨hd.1, List.pairwise_cons.2 ⟨fun e he => ?_, hd.2.1⟩, fun a ha b hb => ?_⟩
        · obtain ⟨j, hj⟩ := List.getElem?_of_mem he
          rw [List.getElem?_drop] at hj
          have hge := posE_ge (s := s) hs (i := posE s L + j) (Nat.le_add_right _ _) hj
          rcases bl_total s e.nm with h | h | h
          · exact h
          · exfalso
            have hj0 : j = 0 := by
              cases j with
              | zero => rfl
              | succ j =>
                exfalso
                obtain ⟨hl, hle⟩ := List.getElem?_eq_some_iff.1 hj
                have := List.pairwise_iff_getElem.1 hs (posE s L) (posE s L + (j + 1)) (by omega) hl (by omega)
                obtain ⟨w, hw⟩ : ∃ w, L[posE s L]? = some w := ⟨_, List.getElem?_eq_getElem (by omega)⟩
                rw [hle, (List.getElem?_eq_some_iff.1 hw).2] at this
                have h0 := posE_at hw
                rw [← h, h0] at this; cases this
            subst hj0
            apply h3
            unfold thereE
            rw [Nat.add_zero] at hj
            rw [hj]
            simp [h]
          · rw [h] at hge; cases hge
        · rcases List.mem_cons.1 hb with rfl | hb
          · obtain ⟨j, hj⟩ := List.getElem?_of_mem ha
            rw [List.getElem?_take] at hj
            split at hj
            · exact posE_lt (by assumption) hj
            · cases hj
          · exact hd.2.2 a ha b hb
theorem addE_ok {L : List EntD} {s : List UInt8} {ino : Int} (hs : SortedE L) (ho : ∀ e ∈ L, okE e) : SortedE (addE L s ino).1 ∧ (∀ e ∈ (addE L s ino).1, okE e) ∧ (addE L s ino).1.length ≤ L.length + 1 := by
  unfold addE
  split
  · exact ⟨hs, ho, Nat.le_succ _⟩
  · rename_i h1
    split
    · exact ⟨hs, ho, Nat.le_succ _⟩
    · rename_i h2
      split
      · exact ⟨hs, ho, Nat.le_succ _⟩
      · rename_i h3
        refine ⟨?_, fun e he => ?_, by have := posE_le s L; simp only [List.length_append, List.length_take, List.length_cons, List.length_drop]; omega⟩
        · have := addE_sorted (s := s) (ino := ino) hs
          unfold addE at this
          rw [if_neg h1, if_neg h2, if_neg h3] at this
          exact this
        · rcases List.mem_append.1 he with he | he
          · exact ho e (List.mem_of_mem_take he)
          · rcases List.mem_cons.1 he with rfl | he
            · exact ⟨by simpa using h2, by show 1 ≤ ino; omega, by show ino < 256; omega⟩
            · exact ho e (List.mem_of_mem_drop he)
theorem remE_ok {L : List EntD} {s : List UInt8} (hs : SortedE L) (ho : ∀ e ∈ L, okE e) : SortedE (remE L s).1 ∧ (∀ e ∈ (remE L s).1, okE e) ∧ (remE L s).1.length ≤ L.length := by
  unfold remE
  split
  · exact ⟨hs.sublist (List.eraseIdx_sublist _ _), fun e he => ho e (List.mem_of_mem_eraseIdx he), by rw [List.length_eraseIdx]; split <;> omega⟩
  · exact ⟨hs, ho, Nat.le_refl _⟩

theorem row_get2 {cs r : List Value} {p n : Nat} (h : (cs.drop p).take n = r) (j : Nat) (hj : j < n) : cs[p + j]? = r[j]? := by
  rw [← h, List.getElem?_take, if_pos hj, List.getElem?_drop]
theorem rowE_two (L : List EntD) : ∀ r ∈ L.map rowE, r.length = 2 := by
  intro r hr
  obtain ⟨e, _, rfl⟩ := List.mem_map.1 hr
  rfl
theorem rowE_one (L : List EntD) : (L.map rowE).flatten.all one1 = true := by
  rw [List.all_eq_true]
  intro x hx
  obtain ⟨r, hr, hx⟩ := List.mem_flatten.1 hx
  obtain ⟨e, _, rfl⟩ := List.mem_map.1 hr
  simp only [rowE, List.mem_cons, List.not_mem_nil, or_false] at hx
  rcases hx with rfl | rfl <;> rfl

end Go.Proofs.YtfegliplajdgmaaI
