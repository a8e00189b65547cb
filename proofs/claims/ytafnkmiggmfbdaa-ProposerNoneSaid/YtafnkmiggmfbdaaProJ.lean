/- Who proposes: the plain law of what is filled. -/
import Derived.Test.YtafnkmiggmfbdaaProI
namespace Go.Proofs.YtafnkmiggmfbdaaI
set_option linter.unusedSimpArgs false
set_option linter.unusedVariables false
open Go

theorem cmpB_le {a n b m : Int} : cmpB a n b m ≤ 0 ↔ (a < b ∨ (a = b ∧ n ≤ m)) := by
  unfold cmpB cmpI
  repeat' split
  all_goals omega
theorem cmpB_pos {a n b m : Int} : 0 < cmpB a n b m ↔ (b < a ∨ (a = b ∧ m < n)) := by
  unfold cmpB cmpI
  repeat' split
  all_goals omega

/-- Of the votes A it keeps the greatest of each slot. -/
structure BestOf (best : Int → Option VoteD) (A : List VoteD) : Prop where
  nope : ∀ s, best s = none → ∀ v ∈ A, v.slot ≠ s
  yes : ∀ s w, best s = some w → w ∈ A ∧ w.slot = s ∧ ∀ v ∈ A, v.slot = s → cmpB v.a v.n w.a w.n ≤ 0
theorem BestOf.count {P : Pro} {A : List VoteD} (h : BestOf P.best A) (v : VoteD) : BestOf (P.count v).best (if P.takes v then A ++ [v] else A) := by
  unfold Pro.count
  cases ht : P.takes v with
  | false => exact h
  | true =>
    simp only [if_true]
    cases hb : better (P.best v.slot) v with
    | true =>
      simp only [if_true]
      have hbest : ∀ s, ((P.setNext (if v.slot + 1 > P.next then v.slot + 1 else P.next)).setBest v).best s = if v.slot = s then some v else P.best s := fun s => rfl
      constructor
      · intro s hs x hx
        rw [hbest] at hs
        split at hs
        · cases hs
        · rename_i hne
          rcases List.mem_append.1 hx with hx | hx
          · exact h.nope s hs x hx
          · simp only [List.mem_singleton] at hx; subst hx; exact hne
      · intro s w hs
        rw [hbest] at hs
        split at hs
        · rename_i he
          injection hs with hs
          subst hs
          refine ⟨List.mem_append_right _ (by simp), he, fun x hx hxs => ?_⟩
          rcases List.mem_append.1 hx with hx | hx
          · unfold better at hb
            split at hb
            · rename_i hn
              exact absurd (hxs.trans he.symm) (h.nope _ hn x hx)
            · rename_i w hw
              have h1 := (h.yes _ w hw).2.2 x hx (hxs.trans he.symm)
              have h2 := of_decide_eq_true hb
              rw [cmpB_le] at h1 ⊢
              rw [cmpB_pos] at h2
              omega
          · simp only [List.mem_singleton] at hx; subst hx; rw [cmpB_le]; omega
        · rename_i hne
          obtain ⟨h1, h2, h3⟩ := h.yes s w hs
          refine ⟨List.mem_append_left _ h1, h2, fun x hx hxs => ?_⟩
          rcases List.mem_append.1 hx with hx | hx
          · exact h3 x hx hxs
          · simp only [List.mem_singleton] at hx; subst hx; exact absurd hxs hne
    | false =>
      simp only [Bool.false_eq_true, if_false]
      have hbest : (P.setNext (if v.slot + 1 > P.next then v.slot + 1 else P.next)).best = P.best := rfl
      rw [hbest]
      unfold better at hb
      split at hb
      · cases hb
      · rename_i w hw
        have h2 := of_decide_eq_false hb
        constructor
        · intro s hs x hx
          rcases List.mem_append.1 hx with hx | hx
          · exact h.nope s hs x hx
          · simp only [List.mem_singleton] at hx; subst hx; intro e; rw [e, hs] at hw; cases hw
        · intro s u hs
          obtain ⟨h1, h3, h4⟩ := h.yes s u hs
          refine ⟨List.mem_append_left _ h1, h3, fun x hx hxs => ?_⟩
          rcases List.mem_append.1 hx with hx | hx
          · exact h4 x hx hxs
          · simp only [List.mem_singleton] at hx
            subst hx
            rw [hxs, hs] at hw
            injection hw with hw
            subst hw
            omega
theorem BestOf.counts : ∀ (l : List VoteD) {P : Pro} {A : List VoteD}, BestOf P.best A → BestOf (l.foldl Pro.count P).best (A ++ l.filter P.takes)
  | [], P, A, h => by simpa using h
  | v :: l, P, A, h => by
    have h1 := h.count v
    have ht : (P.count v).takes = P.takes := by
      funext x
      unfold Pro.takes
      rw [(count_keep P v).2.2.2.1]
    have h2 := BestOf.counts l h1
    rw [ht] at h2
    simp only [List.foldl_cons, List.filter_cons]
    cases hv : P.takes v with
    | true => rw [hv] at h2; simpa using h2
    | false => rw [hv] at h2; simpa using h2

/-- Is it one that may be counted? -/
def goodV (v : VoteD) : Bool := decide (0 ≤ v.slot) && (decide (v.slot < 1024) && (validB v.a v.n && decide (v.val.size ≤ 4096)))
def leadP (n me : Int) : Pro := { Pro.new n me with ba := 10, bn := me, does := 1, fr := 0, next := 0 }
/-- It, behind so many promises. -/
def promP (n me : Int) (ls : List (List VoteD)) : Nat → Pro
  | 0 => leadP n me
  | j + 1 => ((promP n me ls j).promise j 10 me (ls.getD j [])).1
def allV (ls : List (List VoteD)) : Nat → List VoteD
  | 0 => []
  | j + 1 => allV ls j ++ (ls.getD j []).filter goodV

theorem cntW_lt (j : Nat) : ∀ k, cntW (fun i => decide (i < j)) k = min j k
  | 0 => by simp [cntW]
  | k + 1 => by
    simp only [cntW, cntW_lt j k]
    by_cases h : k < j
    · rw [if_pos (by simpa using h)]; omega
    · rw [if_neg (by simpa using h)]; omega
theorem promP_ok {n me : Int} {ls : List (List VoteD)} (hq : quorumI n ≠ 0) (h0 : 0 ≤ me) (hn : me < n) : ∀ j : Nat, (j : Int) ≤ quorumI n →
    (promP n me ls j).ok ∧ (promP n me ls j).n = n ∧ (promP n me ls j).me = me ∧ (promP n me ls j).ba = 10 ∧ (promP n me ls j).bn = me ∧ (promP n me ls j).fr = 0 ∧ (promP n me ls j).filled = false ∧
    (promP n me ls j).who = (fun i => decide (i < j)) ∧ (promP n me ls j).does = (if (j : Int) < quorumI n then 1 else 2) ∧ BestOf (promP n me ls j).best (allV ls j)
  | 0, _ => by
    have := quorumI_ne hq
    refine ⟨⟨hq, h0, hn, Int.le_refl _, Int.le_refl _, by show (0 : Int) ≤ 1024; omega, ⟨by show (0 : Int) ≤ 1; omega, by show (1 : Int) ≤ 2; omega⟩, fun _ _ h => by cases h⟩, rfl, rfl, rfl, rfl, rfl, rfl, ?_, ?_, ⟨fun _ _ _ h => by simp [allV] at h, fun _ _ h => by cases h⟩⟩
    · funext i
      show false = _
      simp
    · rw [if_pos (by show (0 : Int) < _; omega)]; rfl
  | j + 1, hj => by
    have hb := quorumI_ne hq
    obtain ⟨i1, i2, i3, i4, i5, i6, i7, i8, i9, i10⟩ := promP_ok (ls := ls) hq h0 hn j (by omega)
    have hok := i1.promise j 10 me (ls.getD j [])
    have hd : (promP n me ls j).does = 1 := by rw [i9, if_pos (by omega)]
    have hw : (promP n me ls j).who j = false := by rw [i8]; simp
    have hwho : setW (promP n me ls j).who j = fun i => decide (i < j + 1) := by
      funext i
      unfold setW
      rw [i8]
      by_cases h : i = j
      · subst h; simp
      · rw [if_neg h]
        by_cases h2 : i < j
        · show decide (i < j) = _
          rw [decide_eq_true h2, decide_eq_true (by omega)]
        · show decide (i < j) = _
          rw [decide_eq_false h2, decide_eq_false (by omega)]
    have hcnt : cntW (setW (promP n me ls j).who j) 7 = j + 1 := by rw [hwho, cntW_lt]; omega
    have hkp := counts_keep (ls.getD j []) ((promP n me ls j).setWho j)
    have htk : (promP n me ls j).takes = goodV := by
      funext v
      unfold Pro.takes goodV
      rw [i6]
    have hbest := BestOf.counts (ls.getD j []) (P := (promP n me ls j).setWho j) (A := allV ls j) i10
    rw [show ((promP n me ls j).setWho j).takes = goodV from htk] at hbest
    have hstep : promP n me ls (j + 1) = (if ((j + 1 : Nat) : Int) < quorumI n then (ls.getD j []).foldl Pro.count ((promP n me ls j).setWho j) else ((ls.getD j []).foldl Pro.count ((promP n me ls j).setWho j)).setDoes 2) := by
      show ((promP n me ls j).promise j 10 me (ls.getD j [])).1 = _
      unfold Pro.promise
      have hjn : ¬ n ≤ (j : Int) := by omega
      rw [if_neg (by simp [hd, i2, i4, i5, hw, hjn])]
      rw [show (j : Int).toNat = j from rfl, hcnt, i2]
      by_cases h : ((j + 1 : Nat) : Int) < quorumI n
      · rw [if_pos h, if_pos h]
      · rw [if_neg h, if_neg h]
    have hok' : (promP n me ls (j + 1)).ok := hok
    rw [hstep] at hok' ⊢
    by_cases h : ((j + 1 : Nat) : Int) < quorumI n
    · rw [if_pos h] at hok' ⊢
      exact ⟨hok', hkp.1.trans i2, hkp.2.1.trans i3, hkp.2.2.2.2.2.1.trans i4, hkp.2.2.2.2.2.2.1.trans i5, hkp.2.2.2.1.trans i6, hkp.2.2.2.2.2.2.2.trans i7, hkp.2.2.2.2.1.trans hwho, by rw [if_pos h]; exact hkp.2.2.1.trans hd, hbest⟩
    · rw [if_neg h] at hok' ⊢
      exact ⟨hok', hkp.1.trans i2, hkp.2.1.trans i3, hkp.2.2.2.2.2.1.trans i4, hkp.2.2.2.2.2.2.1.trans i5, hkp.2.2.2.1.trans i6, hkp.2.2.2.2.2.2.2.trans i7, hkp.2.2.2.2.1.trans hwho, by rw [if_neg h]; rfl, hbest⟩
theorem lead_nine {n me : Int} (h0 : 0 ≤ me) (hm : me < 7) : (Pro.new n me).lead 9 0 0 = (leadP n me, (10, me), 0) := by
  have hx : nextB 9 me = (10, me) := by
    unfold nextB
    rw [if_neg (by omega)]
    have : ¬ (0 > me) := by omega
    rw [if_neg this, if_neg (by omega)]
    rfl
  have hmx : maxL [(9, 0), ((Pro.new n me).ba, (Pro.new n me).bn)] = (9, 0) := rfl
  unfold Pro.lead
  rw [if_neg (by decide), hmx, if_neg (by decide)]
  show ({ Pro.new n me with ba := (nextB 9 me).1, bn := (nextB 9 me).2, does := 1, fr := 0, next := 0 }, nextB 9 me, (0 : Int)) = _
  rw [hx]
  rfl
theorem allV_len (ls : List (List VoteD)) (hs : ∀ j, (ls.getD j []).length ≤ 20) : ∀ j, (allV ls j).length ≤ 20 * j
  | 0 => Nat.le_refl _
  | j + 1 => by
    have h1 := allV_len ls hs j
    have h2 := List.length_filter_le goodV (ls.getD j [])
    have h3 := hs j
    simp only [allV, List.length_append]
    omega
/-- Filled: each one, where it stands. -/
theorem filledL_get (P : Pro) : ∀ (k : Nat) (s : Int) (i : Nat), i < k → (filledL P s k)[i]? = some ⟨s + i, P.ba, P.bn, valOf (P.best (s + i))⟩
  | 0, _, _, h => by omega
  | k + 1, s, 0, _ => by simp [filledL]
  | k + 1, s, i + 1, h => by
    rw [filledL, List.getElem?_cons_succ, filledL_get P k (s + 1) i (by omega)]
    rw [show s + 1 + (i : Int) = s + ((i + 1 : Nat) : Int) by omega]
end Go.Proofs.YtafnkmiggmfbdaaI
