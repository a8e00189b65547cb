/- Directories: bytes and back, plain. -/
import Derived.Test.YtfegliplajdgmaaDirI
namespace Go.Proofs.YtfegliplajdgmaaI
set_option linter.unusedSimpArgs false
set_option linter.unusedVariables false
open Go

theorem stepE_inv {t : List UInt8} {L0 : List EntD} {st : Rd × List EntD} (hs : SortedE L0) (h : stepE (some t, L0) = some st) :
    ∃ t2 e, st = (some t2, L0 ++ [e]) ∧ okE e ∧ t = encE e ++ t2 ∧ SortedE (L0 ++ [e]) := by
  have hb := fun hh => stepE_bad (r := some t) (L := L0) hh
  unfold stepE at h
  split at h
  case isFalse => cases h
  rename_i hc
  obtain ⟨h1, h2⟩ := hc
  simp only at h1 h2 h
  have h' := Option.some.inj h
  cases h3 : (takeInt (takeText (some t)).1).1 with
  | none => have := hb h3; unfold stepE at this; rw [if_pos ⟨h1, h2⟩] at this; cases this
  | some t2 =>
    cases h4 : (takeText (some t)).1 with
    | none => rw [h4] at h3; cases h3
    | some t1 =>
      rw [h4] at h3 h2 h'
      obtain ⟨nm, hnm⟩ : ∃ nm, nm = (takeText (some t)).2 := ⟨_, rfl⟩
      obtain ⟨ino, hino⟩ : ∃ ino, ino = (takeInt (some t1)).2 := ⟨_, rfl⟩
      rw [← hnm, ← hino] at h2
      rw [← hnm] at h1
      rw [← hnm, ← hino, h3] at h'
      have e1 := takeText_inv (r := some t) (s' := t1) (t := nm) (by rw [hnm, ← h4])
      have e2 := takeInt_inv (r := some t1) (s' := t2) (n := ino) (by rw [hino, ← h3])
      have hend := addE_end hs (.inr h1) h2
      obtain ⟨z1, z2, z3⟩ := addE_name h2
      refine ⟨t2, ⟨nm, ino⟩, by rw [← h', hend], ⟨z1, z2, z3⟩, ?_, ?_⟩
      · injection e1 with e1
        injection e2 with e2
        rw [e1, e2]
        simp [encE]
      · have := addE_sorted (s := nm) (ino := ino) hs
        rwa [hend] at this
theorem readN_inv : ∀ (k : Nat) {t : List UInt8} {L0 : List EntD} {r : Rd} {L : List EntD}, SortedE L0 → readN k (some t, L0) = some (r, L) → rdE r = 0 →
    ∃ M, L = L0 ++ M ∧ M.length = k ∧ t = (M.map encE).flatten ∧ SortedE L ∧ ∀ e ∈ M, okE e
  | 0, t, L0, r, L, hs, h, he => by
    simp only [readN, Option.some.injEq, Prod.mk.injEq] at h
    obtain ⟨rfl, rfl⟩ := h
    unfold rdE at he
    split at he
    · rename_i ht
      injection ht with ht
      exact ⟨[], by simp, rfl, by simp [ht], hs, by simp⟩
    · cases he
  | k + 1, t, L0, r, L, hs, h, he => by
    rw [readN] at h
    cases hst : stepE (some t, L0) with
    | none => rw [hst] at h; cases h
    | some st =>
      rw [hst] at h
      obtain ⟨t2, e, rfl, ho, ht, hs2⟩ := stepE_inv hs hst
      obtain ⟨M, e1, e2, e3, e4, e5⟩ := readN_inv k hs2 h he
      refine ⟨e :: M, by rw [e1]; simp, by simp [e2], by rw [ht, e3]; simp, e4, fun x hx => ?_⟩
      rcases List.mem_cons.1 hx with rfl | hx
      · exact ho
      · exact e5 x hx
theorem readE_inv {s : List UInt8} {L : List EntD} (h : readE s = some L) : textE L = s ∧ SortedE L ∧ (∀ e ∈ L, okE e) := by
  unfold readE at h
  split at h
  · cases h
  · rename_i hn
    cases h0 : (takeInt (some s)).1 with
    | none =>
      have := takeInt_none h0
      rw [h0, this] at h
      simp [readN, rdE] at h
    | some t =>
      rw [h0] at h hn
      obtain ⟨n, hnn⟩ : ∃ n, n = (takeInt (some s)).2 := ⟨_, rfl⟩
      rw [← hnn] at h hn
      have e1 := takeInt_inv (r := some s) (s' := t) (n := n) (by rw [hnn, ← h0])
      injection e1 with e1
      cases hr : readN n.toNat (some t, []) with
      | none => rw [hr] at h; cases h
      | some st =>
        obtain ⟨r, L'⟩ := st
        rw [hr] at h
        simp only at h
        split at h
        case isFalse => cases h
        rename_i he
        injection h with h
        subst h
        obtain ⟨M, e2, e3, e4, e5, e6⟩ := readN_inv _ List.Pairwise.nil hr he
        simp only [List.nil_append] at e2
        subst e2
        have hl : (L'.length : Int) = n := by rw [e3]; omega
        exact ⟨by rw [e1, e4, ← hl]; rfl, e5, e6⟩

theorem encE_ne (e : EntD) : 1 ≤ (encE e).length := by
  have := List.length_pos_iff.2 (encI_ne e.ino)
  unfold encE
  simp only [List.length_append]; omega
theorem flat_ge (L : List EntD) : L.length ≤ ((L.map encE).flatten).length := by
  induction L with
  | nil => simp
  | cons e L ih =>
    have := encE_ne e
    simp only [List.map_cons, List.flatten_cons, List.length_append, List.length_cons]; omega
theorem stepE_lay {e : EntD} {t : List UInt8} {L0 : List EntD} (hs : SortedE (L0 ++ [e])) (ho : okE e) : stepE (some (encE e ++ t), L0) = some (some t, L0 ++ [e]) := by
  obtain ⟨o1, o2, o3⟩ := ho
  have h28 := (okE_len ⟨o1, o2, o3⟩).1
  have hs0 : SortedE L0 := (List.pairwise_append.1 hs).1
  have e1 : takeText (some (encE e ++ t)) = (some (encI e.ino ++ t), e.nm) := by
    have := takeText_lay (x := e.nm) (by omega) (encI e.ino ++ t)
    unfold encE
    rw [← this]; simp
  have e2 : takeInt (some (encI e.ino ++ t)) = (some t, e.ino) := takeInt_lay (by omega) (by omega) t
  have hlt : Op.bytesLess (lastE L0) e.nm = true := by
    by_cases hL : L0 = []
    · subst hL; exact bl_nil (nameB_ne o1)
    · have hl : L0.getLast? = some (L0.getLast hL) := List.getLast?_eq_some_getLast hL
      unfold lastE
      rw [hl]
      exact (List.pairwise_append.1 hs).2.2 _ (List.getLast_mem hL) e (by simp)
  have hp := posE_end hs0 (.inr hlt)
  have ht : thereE L0 e.nm = false := by unfold thereE; rw [hp, List.getElem?_eq_none (Nat.le_refl _)]
  have ha : addE L0 e.nm e.ino = (L0 ++ [e], 0) := by
    unfold addE
    rw [if_neg (by omega), if_neg (by rw [o1]; simp), if_neg (by rw [ht]; simp), hp]
    simp
  unfold stepE
  simp only [e1, e2, ha]
  rw [if_pos ⟨hlt, trivial⟩]
theorem readN_lay : ∀ (M L0 : List EntD), SortedE (L0 ++ M) → (∀ e ∈ M, okE e) → readN M.length (some ((M.map encE).flatten), L0) = some (some [], L0 ++ M)
  | [], L0, _, _ => by simp [readN]
  | e :: M, L0, hs, ho => by
    have e0 : L0 ++ e :: M = L0 ++ [e] ++ M := by simp
    rw [e0] at hs
    have h1 := stepE_lay (e := e) (t := (M.map encE).flatten) (L0 := L0) (List.pairwise_append.1 hs).1 (ho e (by simp))
    simp only [List.map_cons, List.flatten_cons, List.length_cons, readN]
    rw [h1, e0]
    exact readN_lay M _ hs fun x hx => ho x (by simp [hx])
theorem readE_text {L : List EntD} (hs : SortedE L) (ho : ∀ e ∈ L, okE e) (hl : L.length ≤ 1000000) : readE (textE L) = some L := by
  unfold readE textE
  have e1 : takeInt (some (encI L.length ++ (L.map encE).flatten)) = (some ((L.map encE).flatten), (L.length : Int)) := takeInt_lay (by omega) (by omega) _
  have hg := flat_ge L
  have hr : rdS (some ((L.map encE).flatten)) = (L.map encE).flatten := rfl
  rw [e1]
  simp only [hr]
  rw [if_neg (by omega)]
  have := readN_lay L [] (by simpa using hs) ho
  simp only [List.nil_append] at this
  simp only [Int.toNat_natCast, this]
  rfl

end Go.Proofs.YtfegliplajdgmaaI
