/- A node: what it asks for by one ballot is one vote a slot. / Deeds of a node: not too many. / A node: all that it says comes from it; what it asks for. / Deeds of a node as arguments. -/
import Derived.Test.YtfmjbmddghjjmaaRpN
import Derived.Test.YtfmjbmddghjjmaaSeat21
namespace Go.Proofs.YtfmjbmddghjjmaaI
set_option linter.unusedSimpArgs false
set_option linter.unusedVariables false
open Go

structure DeedR where
  kind : Int
  to : Int
  text : ByteArray
  note : NoteD
def Rp.deed (R : Rp) (d : DeedR) : Rp × List NoteD :=
  if d.kind = 0 then R.lead else if d.kind = 1 then ((R.propose d.text).1, (R.propose d.text).2.1) else if d.kind = 2 then R.take d.note else if d.kind = 3 then (R, R.ask d.to) else (R, [])
theorem Rp.ok.deed {R : Rp} (h : R.ok) (d : DeedR) : (R.deed d).1.ok ∧ (R.deed d).1.n = R.n ∧ (R.deed d).1.me = R.me := by
  unfold Rp.deed
  split
  · exact h.lead
  split
  · exact h.propose d.text
  split
  · exact h.take d.note
  split <;> exact ⟨h, rfl, rfl⟩

/-! ### what a note is -/
def OkN (R : Rp) (y : NoteD) : Prop := y.fr = R.me ∧ 0 ≤ y.to ∧ y.to < R.n ∧ 1 ≤ y.kind ∧ y.kind ≤ 6 ∧ (y.kind = 3 → y.votes.length = 1)
theorem okN_all {R : Rp} {x y : NoteD} (h : y ∈ allN R x) (h1 : 1 ≤ x.kind ∧ x.kind ≤ 6) (h2 : x.kind = 3 → x.votes.length = 1) : OkN R y := by
  obtain ⟨i, hi, rfl⟩ := allN_mem h
  exact ⟨rfl, by show (0 : Int) ≤ i; omega, hi, h1.1, h1.2, h2⟩
theorem isNode_iff {R : Rp} {i : Int} (h : ¬ R.isNode i = false) : 0 ≤ i ∧ i < R.n := by
  unfold Rp.isNode at h
  simpa using h
theorem okN_deed {R : Rp} (d : DeedR) {y : NoteD} (hy : y ∈ (R.deed d).2) : OkN R y := by
  unfold Rp.deed at hy
  split at hy
  · unfold Rp.lead at hy
    split at hy
    · cases hy
    · exact okN_all hy ⟨by simp [prepN], by simp [prepN]⟩ (by simp [prepN])
  split at hy
  · unfold Rp.propose at hy
    split at hy
    · cases hy
    · exact okN_all hy ⟨by simp [voteN], by simp [voteN]⟩ (by simp [voteN])
  split at hy
  · unfold Rp.take at hy
    split at hy
    · cases hy
    rename_i hc
    simp only [not_or] at hc
    have hn := isNode_iff hc.1
    split at hy
    · unfold Rp.prepare at hy
      split at hy
      · cases hy
      split at hy
      · cases hy
      · simp only [List.mem_singleton] at hy
        subst hy
        exact ⟨rfl, hn.1, hn.2, by simp, by simp, by simp⟩
    split at hy
    · unfold Rp.promise at hy
      split at hy
      · cases hy
      split at hy
      · cases hy
      · obtain ⟨v, _, hy⟩ := List.mem_flatMap.1 hy
        exact okN_all hy ⟨by simp [voteN], by simp [voteN]⟩ (by simp [voteN])
    split at hy
    · unfold Rp.accept at hy
      split at hy
      · exact okN_all hy ⟨by simp [voteN], by simp [voteN]⟩ (by simp [voteN])
      · cases hy
    split at hy
    · cases hy
    split at hy
    · unfold Rp.tell at hy
      split at hy
      · cases hy
      split at hy
      · cases hy
      · simp only [List.mem_singleton] at hy
        subst hy
        exact ⟨rfl, hn.1, hn.2, by simp, by simp, by simp⟩
    split at hy <;> cases hy
  split at hy
  · unfold Rp.ask at hy
    split at hy
    · rename_i hc
      simp only [List.mem_singleton] at hy
      subst hy
      have hn := isNode_iff (R := R) (i := d.to) (by simp [hc])
      exact ⟨rfl, hn.1, hn.2, by simp [askN], by simp [askN], by simp [askN]⟩
    · cases hy
  · cases hy

/-! ### the votes that are asked for -/
def askV (y : NoteD) : Option VoteD := if y.kind = 3 ∧ y.to = 0 then some (headV y.votes) else none
def asks (l : List NoteD) : List VoteD := l.filterMap askV
theorem asks_nil : asks [] = [] := rfl
theorem asks_append (l m : List NoteD) : asks (l ++ m) = asks l ++ asks m := List.filterMap_append
theorem asks_none {l : List NoteD} (h : ∀ y ∈ l, y.kind ≠ 3) : asks l = [] := by
  unfold asks
  rw [List.filterMap_eq_nil_iff]
  intro y hy
  unfold askV
  rw [if_neg (fun hh => h y hy hh.1)]
theorem asks_all_none {R : Rp} {x : NoteD} (h : x.kind ≠ 3) : asks (allN R x) = [] := asks_none fun y hy => by
  obtain ⟨i, _, rfl⟩ := allN_mem hy
  exact h
theorem asks_from (me : Int) (v : VoteD) : ∀ k s, asks ((List.range' (s + 1) k).map fun (i : Nat) => ({ voteN 3 v with fr := me, to := (i : Int) } : NoteD)) = []
  | 0, _ => rfl
  | k + 1, s => by
    rw [List.range'_succ, List.map_cons]
    have e : askV { voteN 3 v with fr := me, to := ((s + 1 : Nat) : Int) } = none := by
      unfold askV
      rw [if_neg (fun hh => by have := hh.2; simp only at this; omega)]
    unfold asks
    rw [List.filterMap_cons_none e]
    exact asks_from me v k (s + 1)
theorem asks_vote {R : Rp} (h : 1 ≤ R.n) (v : VoteD) : asks (allN R (voteN 3 v)) = [v] := by
  unfold allN
  rw [show R.n.toNat = (R.n.toNat - 1) + 1 by omega, List.range_eq_range', List.range'_succ, List.map_cons]
  have e : askV { voteN 3 v with fr := R.me, to := ((0 : Nat) : Int) } = some v := by
    unfold askV
    rw [if_pos ⟨rfl, rfl⟩]
    rfl
  unfold asks
  rw [List.filterMap_cons_some e]
  have := asks_from R.me v (R.n.toNat - 1) 0
  unfold asks at this
  rw [this]
theorem asks_flat {R : Rp} (h : 1 ≤ R.n) (l : List VoteD) : asks (l.flatMap fun v => allN R (voteN 3 v)) = l := by
  induction l with
  | nil => rfl
  | cons v l ih => rw [List.flatMap_cons, asks_append, asks_vote h, ih]; rfl

/-! ### one a slot -/
def keyV (v : VoteD) : Int × Int × Int := (v.slot, v.a, v.n)
theorem cmpB_eq {a n b m : Int} : cmpB a n b m = 0 ↔ (a = b ∧ n = m) := by
  unfold cmpB cmpI
  (repeat' split) <;> omega
theorem cmpB_lt {a n b m : Int} : cmpB a n b m < 0 ↔ (a < b ∨ (a = b ∧ n < m)) := by
  unfold cmpB cmpI
  (repeat' split) <;> omega
theorem cmpB_gt {a n b m : Int} : 0 < cmpB a n b m ↔ (b < a ∨ (a = b ∧ m < n)) := by
  unfold cmpB cmpI
  (repeat' split) <;> omega
/-- Below its ballot; or by it, it leads, and below its next slot. -/
def AskI (P : Pro) (l : List VoteD) : Prop := (P.does = 1 → P.filled = false) ∧ ∀ v ∈ l, cmpB v.a v.n P.ba P.bn < 0 ∨ (v.a = P.ba ∧ v.n = P.bn ∧ P.does ≠ 1 ∧ v.slot < P.next)
theorem AskI.up {P P' : Pro} {l : List VoteD} (h : AskI P l) (h1 : P'.does = 1 → P'.filled = false) (hb : 0 < cmpB P'.ba P'.bn P.ba P.bn) : AskI P' l := by
  refine ⟨h1, fun v hv => .inl ?_⟩
  rw [cmpB_gt] at hb
  rw [cmpB_lt]
  rcases h.2 v hv with h2 | ⟨h2, h3, _⟩
  · rw [cmpB_lt] at h2
    omega
  · omega
theorem AskI.same {P P' : Pro} {l : List VoteD} (h : AskI P l) (e1 : P'.ba = P.ba) (e2 : P'.bn = P.bn) (h1 : P'.does = 1 → P'.filled = false) (h2 : P.does ≠ 1 → P'.does ≠ 1) (h3 : P.next ≤ P'.next) : AskI P' l := by
  refine ⟨h1, fun v hv => ?_⟩
  rw [e1, e2]
  rcases h.2 v hv with h4 | ⟨h4, h5, h6, h7⟩
  · exact .inl h4
  · exact .inr ⟨h4, h5, h2 h6, by omega⟩
theorem step_up (P : Pro) (l : List VoteD) (a n : Int) (h : AskI P l) : AskI (P.step a n).1 l := by
  unfold Pro.step
  split
  · exact h
  · rename_i hc
    simp only [not_or] at hc
    refine h.up (fun hh => ?_) ?_
    · exact absurd hh (by show (0 : Int) ≠ 1; omega)
    · show 0 < cmpB a n P.ba P.bn
      omega
theorem maxBy_ge : ∀ (l : List (Int × Int)) (m : Int × Int), 0 ≤ cmpBB (maxBy cmpBB l m) m ∧ ∀ x ∈ l, 0 ≤ cmpBB (maxBy cmpBB l m) x
  | [], m => ⟨by show 0 ≤ cmpB m.1 m.2 m.1 m.2; rw [cmpB_ge]; omega, by simp⟩
  | r :: l, m => by
    obtain ⟨h1, h2⟩ := maxBy_ge l (if 0 < cmpBB r m then r else m)
    simp only [maxBy]
    unfold cmpBB at h1 h2 ⊢
    simp only [cmpB_ge] at h1 h2 ⊢
    by_cases hc : 0 < cmpB r.1 r.2 m.1 m.2
    · rw [if_pos hc] at h1 h2 ⊢
      rw [cmpB_gt] at hc
      refine ⟨by omega, fun x hx => ?_⟩
      rcases List.mem_cons.1 hx with rfl | hx
      · omega
      · exact h2 x hx
    · rw [if_neg hc] at h1 h2 ⊢
      rw [cmpB_gt] at hc
      refine ⟨by omega, fun x hx => ?_⟩
      rcases List.mem_cons.1 hx with rfl | hx
      · omega
      · exact h2 x hx
theorem lead_up (P : Pro) (l : List VoteD) (a n fr : Int) (h : AskI P l) : AskI (P.lead a n fr).1 l := by
  unfold Pro.lead
  split
  · exact h
  split
  · exact h
  rename_i hc hd
  simp only [not_or, Bool.not_eq_false] at hc
  have hv := validB_iff.1 hc.1
  obtain ⟨g1, g2⟩ := maxBy_ge [(P.ba, P.bn)] (a, n)
  have g3 := g2 (P.ba, P.bn) (by simp)
  unfold cmpBB at g1 g3
  rw [cmpB_ge] at g1 g3
  refine h.up (fun _ => rfl) ?_
  show 0 < cmpB (nextB (maxL [(a, n), (P.ba, P.bn)]).1 P.me).1 (nextB (maxL [(a, n), (P.ba, P.bn)]).1 P.me).2 P.ba P.bn
  rw [cmpB_gt]
  have hm : maxL [(a, n), (P.ba, P.bn)] = maxBy cmpBB [(P.ba, P.bn)] (a, n) := rfl
  rw [hm] at hd ⊢
  have g4 : P.ba ≤ (maxBy cmpBB [(P.ba, P.bn)] (a, n)).1 ∧ a ≤ (maxBy cmpBB [(P.ba, P.bn)] (a, n)).1 := by
    simp only at g1 g3
    constructor
    · rcases g3 with g | g
      · exact Int.le_of_lt g
      · exact Int.le_of_eq g.1.symm
    · rcases g1 with g | g
      · exact Int.le_of_lt g
      · exact Int.le_of_eq g.1.symm
  clear g1 g3 g2
  obtain ⟨x, hx⟩ : ∃ x, x = maxBy cmpBB [(P.ba, P.bn)] (a, n) := ⟨_, rfl⟩
  rw [← hx] at hd g4 ⊢
  unfold nextB
  rw [if_neg (by omega)]
  left
  show P.ba < _ + 1
  omega
theorem count_next (P : Pro) (v : VoteD) : P.next ≤ (P.count v).next := by
  unfold Pro.count
  split
  · split
    · show P.next ≤ (if v.slot + 1 > P.next then v.slot + 1 else P.next)
      split <;> omega
    · show P.next ≤ (if v.slot + 1 > P.next then v.slot + 1 else P.next)
      split <;> omega
  · exact Int.le_refl _
theorem counts_next : ∀ (l : List VoteD) (P : Pro), P.next ≤ (l.foldl Pro.count P).next
  | [], _ => Int.le_refl _
  | v :: l, P => Int.le_trans (count_next P v) (counts_next l _)
theorem filledL_mem (P : Pro) : ∀ (k : Nat) (s : Int) (v : VoteD), v ∈ filledL P s k → v.a = P.ba ∧ v.n = P.bn ∧ s ≤ v.slot ∧ v.slot < s + k
  | 0, _, _, h => by cases h
  | k + 1, s, v, h => by
    simp only [filledL, List.mem_cons] at h
    rcases h with rfl | h
    · exact ⟨rfl, rfl, Int.le_refl _, by show s < s + ((k + 1 : Nat) : Int); omega⟩
    · obtain ⟨h1, h2, h3, h4⟩ := filledL_mem P k (s + 1) v h
      exact ⟨h1, h2, by omega, by omega⟩
theorem filledL_nodup (P : Pro) : ∀ (k : Nat) (s : Int), ((filledL P s k).map keyV).Nodup
  | 0, _ => List.nodup_nil
  | k + 1, s => by
    simp only [filledL, List.map_cons, List.nodup_cons]
    refine ⟨fun hm => ?_, filledL_nodup P k (s + 1)⟩
    obtain ⟨v, hv, he⟩ := List.mem_map.1 hm
    have := filledL_mem P k (s + 1) v hv
    simp only [keyV, Prod.mk.injEq] at he
    omega

/-- What was asked for, and how it stands. -/
def AskJ (P : Pro) (l : List VoteD) : Prop := AskI P l ∧ (l.map keyV).Nodup
theorem AskJ.add {P P' : Pro} {l m : List VoteD} (h : AskJ P l) (h1 : AskI P' l) (h2 : AskI P' m) (h3 : (m.map keyV).Nodup) (h4 : ∀ v ∈ l, ∀ w ∈ m, keyV v ≠ keyV w) : AskJ P' (l ++ m) := by
  refine ⟨⟨h1.1, fun v hv => (List.mem_append.1 hv).elim (h1.2 v) (h2.2 v)⟩, ?_⟩
  rw [List.map_append, List.nodup_append]
  refine ⟨h.2, h3, fun a ha b hb => ?_⟩
  obtain ⟨v, hv, rfl⟩ := List.mem_map.1 ha
  obtain ⟨w, hw, rfl⟩ := List.mem_map.1 hb
  exact h4 v hv w hw
theorem AskJ.none {P P' : Pro} {l : List VoteD} {m : List NoteD} (h : AskJ P l) (h1 : AskI P' l) (hm : asks m = []) : AskJ P' (l ++ asks m) := by
  rw [hm, List.append_nil]
  exact ⟨h1, h.2⟩
theorem promise_same {P : Pro} {l : List VoteD} (fr a n : Int) (vs : List VoteD) (h : AskI P l) : AskI (P.promise fr a n vs).1 l := by
  have hk := counts_keep vs (P.setWho fr.toNat)
  have hx := counts_next vs (P.setWho fr.toNat)
  unfold Pro.promise
  split
  · exact h
  rename_i hc
  simp only [not_or] at hc
  have hd : P.does = 1 := Classical.byContradiction fun hh => hc.1 hh
  split
  · refine h.same hk.2.2.2.2.2.1 hk.2.2.2.2.2.2.1 (fun _ => ?_) (fun hh => absurd hd hh) hx
    rw [hk.2.2.2.2.2.2.2]
    exact h.1 hd
  · refine h.same hk.2.2.2.2.2.1 hk.2.2.2.2.2.2.1 (fun hh => ?_) (fun hh => absurd hd hh) hx
    exact absurd hh (by show (2 : Int) ≠ 1; omega)
theorem promise_new {P : Pro} {l : List VoteD} {fr a n : Int} {vs : List VoteD} (h : AskI P l) (ht : (P.promise fr a n vs).2 = true) :
    (P.promise fr a n vs).1.filled = false ∧ ∀ v ∈ l, cmpB v.a v.n (P.promise fr a n vs).1.ba (P.promise fr a n vs).1.bn < 0 := by
  have hk := counts_keep vs (P.setWho fr.toNat)
  unfold Pro.promise at ht ⊢
  split at ht
  · cases ht
  rename_i hc
  rw [if_neg hc]
  simp only [not_or] at hc
  have hd : P.does = 1 := Classical.byContradiction fun hh => hc.1 hh
  split at ht
  · cases ht
  rename_i hc2
  rw [if_neg hc2]
  refine ⟨hk.2.2.2.2.2.2.2.trans (h.1 hd), fun v hv => ?_⟩
  show cmpB v.a v.n (List.foldl Pro.count (P.setWho fr.toNat) vs).ba (List.foldl Pro.count (P.setWho fr.toNat) vs).bn < 0
  rw [hk.2.2.2.2.2.1, hk.2.2.2.2.2.2.1]
  exact (h.2 v hv).resolve_right fun hh => hh.2.2.1 hd

theorem ask_deed {R : Rp} {l : List VoteD} (ho : R.ok) (h : AskJ R.P l) (d : DeedR) : AskJ (R.deed d).1.P (l ++ asks (R.deed d).2) := by
  have hq := quorumI_ne ho.1.1
  rw [ho.2.1] at hq
  unfold Rp.deed
  split
  · unfold Rp.lead
    split
    · exact h.none h.1 rfl
    · exact h.none (lead_up _ _ _ _ _ h.1) (asks_all_none (by simp [prepN]))
  split
  · unfold Rp.propose
    split
    · exact h.none h.1 rfl
    · rename_i hc
      have he : (R.P.propose d.text).2 = 0 := Classical.byContradiction hc
      show AskJ (R.P.propose d.text).1 (l ++ asks (allN R (voteN 3 (R.P.proposeV d.text))))
      rw [asks_vote hq.1]
      have hv : R.P.proposeV d.text = ⟨R.P.next, R.P.ba, R.P.bn, d.text⟩ := by unfold Pro.proposeV; rw [if_pos he]
      have hp : (R.P.propose d.text).1 = R.P.setNext (R.P.next + 1) ∧ R.P.does = 2 := by
        unfold Pro.propose at he ⊢
        split at he
        · exact absurd he (by simp)
        split at he
        · exact absurd he (by simp)
        split at he
        · exact absurd he (by simp)
        · rename_i a1 a2 a3
          rw [if_neg a1, if_neg a2, if_neg a3]
          exact ⟨rfl, Classical.byContradiction fun hh => a3 hh⟩
      rw [hv, hp.1]
      have hd := hp.2
      have hs : AskI (R.P.setNext (R.P.next + 1)) l := h.1.same rfl rfl (fun hh => by rw [show (R.P.setNext (R.P.next + 1)).does = R.P.does from rfl, hd] at hh; omega) (fun hh => hh) (by show R.P.next ≤ R.P.next + 1; omega)
      refine h.add hs ⟨hs.1, fun v hv => ?_⟩ (by simp) fun v hv w hw => ?_
      · simp only [List.mem_singleton] at hv
        subst hv
        refine .inr ⟨rfl, rfl, ?_, ?_⟩
        · show R.P.does ≠ 1; omega
        · show R.P.next < R.P.next + 1; omega
      · simp only [List.mem_singleton] at hw
        subst hw
        intro he
        simp only [keyV, Prod.mk.injEq] at he
        rcases h.1.2 v hv with h4 | ⟨_, _, _, h4⟩
        · rw [cmpB_lt] at h4; omega
        · omega
  split
  · unfold Rp.take
    split
    · exact h.none h.1 rfl
    split
    · unfold Rp.prepare
      split
      · exact h.none (step_up _ _ _ _ h.1) rfl
      split
      · exact h.none (step_up _ _ _ _ h.1) rfl
      · exact h.none (step_up _ _ _ _ h.1) (asks_none fun y hy => by simp only [List.mem_singleton] at hy; subst hy; simp)
    split
    · unfold Rp.promise
      have hp := promise_same d.note.fr d.note.ba d.note.bn d.note.votes h.1
      split
      · exact h.none hp rfl
      split
      · exact h.none hp rfl
      rename_i hc _
      have ht : (R.P.promise d.note.fr d.note.ba d.note.bn d.note.votes).2 = true := by simpa using hc
      have hw := promise_new h.1 ht
      have hdo := promise_does ht
      have hok := ho.1.promise d.note.fr d.note.ba d.note.bn d.note.votes
      obtain ⟨Q, hQ⟩ : ∃ Q, Q = (R.P.promise d.note.fr d.note.ba d.note.bn d.note.votes).1 := ⟨_, rfl⟩
      simp only [← hQ] at hp hw hdo hok ⊢
      show AskJ (Q.setFilled true) (l ++ asks ((Q.fill (endP Q)).flatMap fun v => allN R (voteN 3 v)))
      rw [asks_flat hq.1]
      have he := endP_bd hok
      have hs : AskI (Q.setFilled true) l := hp.same rfl rfl (fun hh => by rw [show (Q.setFilled true).does = Q.does from rfl, hdo.1] at hh; omega) (fun hh => hh) (Int.le_refl _)
      refine h.add hs ⟨hs.1, fun v hv => ?_⟩ (filledL_nodup Q _ _) fun v hv w hw2 => ?_
      · have := filledL_mem Q _ _ v hv
        refine .inr ⟨this.1, this.2.1, ?_, ?_⟩
        · show Q.does ≠ 1; omega
        · show v.slot < Q.next; omega
      · have := filledL_mem Q _ _ w hw2
        have h5 := hw.2 v hv
        rw [cmpB_lt] at h5
        intro he
        simp only [keyV, Prod.mk.injEq] at he
        omega
    split
    · unfold Rp.accept
      split
      · exact h.none (step_up _ _ _ _ h.1) (asks_all_none (by simp [voteN]))
      · exact h.none (step_up _ _ _ _ h.1) rfl
    split
    · exact h.none h.1 rfl
    split
    · unfold Rp.tell
      split
      · exact h.none h.1 rfl
      split
      · exact h.none h.1 rfl
      · exact h.none h.1 (asks_none fun y hy => by simp only [List.mem_singleton] at hy; subst hy; simp)
    split <;> exact h.none h.1 rfl
  split
  · unfold Rp.ask
    split
    · exact h.none h.1 (asks_none fun y hy => by simp only [List.mem_singleton] at hy; subst hy; simp [askN])
    · exact h.none h.1 rfl
  · exact h.none h.1 rfl
end Go.Proofs.YtfmjbmddghjjmaaI
namespace Go.Proofs.YtfmjbmddghjjmaaI
set_option linter.unusedSimpArgs false
set_option linter.unusedVariables false
open Go

def rowR (d : DeedR) (u : Value) : List Value := .int .i64 d.kind :: .int .i64 d.to :: .string d.text :: rowN d.note u
/-- Deeds as they lie: an own slice each for the note's votes. -/
def DsR (H : IHeap) (v : Value) (l : List DeedR) : Prop :=
  ∃ us : List Value, us.length = l.length ∧ SlR H 10 v (List.zipWith rowR l us) ∧ ∀ (i : Nat) (x : DeedR) (u : Value), l[i]? = some x → us[i]? = some u → SlW H 4 u (x.note.votes.map rowV)
theorem DsR.le {H H' : IHeap} {v : Value} {l : List DeedR} (h : DsR H v l) (k : H.le H') : DsR H' v l := by
  obtain ⟨us, h1, h2, h3⟩ := h
  exact ⟨us, h1, h2.le k, fun i x u a b => (h3 i x u a b).le k⟩
theorem DsR.len {H : IHeap} {v : Value} {l : List DeedR} (h : DsR H v l) : ∃ a cap, v = .slice a l.length cap := by
  obtain ⟨us, h1, ⟨a, cap, e, _⟩, _⟩ := h
  rw [List.length_zipWith, h1, Nat.min_self] at e
  exact ⟨a, cap, e⟩
theorem DsR.at {H : IHeap} {v : Value} {l : List DeedR} (h : DsR H v l) {i : Nat} {x : DeedR} (hi : l[i]? = some x) :
    ∃ b o cap cs ro u, v = .slice (some ⟨b, o, none⟩) l.length cap ∧ b < H.next ∧ H.get b = some (.cells cs ro) ∧ (cs.drop (o + i * 10)).take 10 = rowR x u ∧ o + i * 10 + 10 ≤ cs.length ∧ SlW H 4 u (x.note.votes.map rowV) := by
  obtain ⟨us, h1, h2, h3⟩ := h
  have hl := (List.getElem?_eq_some_iff.1 hi).1
  have hu : us[i]? = some us[i] := List.getElem?_eq_getElem (by omega)
  have hz : (List.zipWith rowR l us)[i]? = some (rowR x us[i]) := by rw [List.getElem?_zipWith, hi, hu]
  obtain ⟨b, o, cap, cs, ro, e, hb, hg, _, hr, hbd⟩ := h2.at hz
  rw [List.length_zipWith, h1, Nat.min_self] at e
  exact ⟨b, o, cap, cs, ro, us[i], e, hb, hg, hr, hbd, h3 i x _ hi hu⟩
theorem SlW.anyD {H : IHeap} {size : Nat} {v : Value} {rows : List (List Value)} (h : SlW H size v rows) : SwD (fun b => b < H.next) H size v rows := by
  refine ⟨⟨h.1, fun b o n c e hr => ?_⟩, h⟩
  obtain ⟨⟨a, cap, e2, h2⟩, _⟩ := h
  obtain ⟨b2, o2, cs2, ro2, rfl, hb2, _⟩ := h2 hr
  rw [e] at e2
  simp only [Value.slice.injEq, Option.some.injEq, Addr.mk.injEq] at e2
  rw [e2.1.1]
  exact hb2

section
variable (c : Ctx) (hL : HasLaw21 c) {H : IHeap} {K : Value → IHeap → Prop}

include hL in
theorem Few_ok {v : Value} {l : List DeedR} (hv : DsR H v l) (h0 : K (.int .i64 0) H) (h1 : l.length ≤ 60 → (∀ d ∈ l, d.note.votes.length ≤ 10) → K (.int .i64 1) H) :
    c.C (c.F n_hurdlelaw21_Few) [v] H K := by
  refine c.enter hL.hurdlelaw21_Few rfl ?_
  obtain ⟨va, vc, hve⟩ := hv.len
  by_cases h60 : l.length ≤ 60
  · have h60' : ¬ (60 : Int) < (l.length : Int) := by omega
    rw [hve]
    simp -implicitDefEqProofs [J0,J1,J2,J3,J4,J5,J6,J7,J8,J9,Ja,Jb,Jc,Jd,Je,Jf,Jg,Jh,Ji,Jj,Jk,Jl,Jm,Jn,Jo,Jp,Jq,Jr,Js,Jt,Ju,Jv,Jw,Jx,Jy,Jz,JA,JB,JC,JD,JE,JF,JG,JH,JI,JJ,JK,JL,JM,JN,JO,JP,JQ,JR,JS,stillI,IOp.kind,JT,JU,JV,JW,JX,JY,JZ,Y0,Y1,Y2,Y3,Y4,Y5,Y6,Y7,Y8,Y9,Ya,Yb,Yc,Yd,Ye,Yf,Yg,Yh,Yi,Yj,Yk,Yl,Ym,Yn,Yo,Yp,Yq,ial,Yr,Ys,Yt,Yu,Yv,Yw,Yx,Yy,ires,iresL,ires1,Yz,YA,YB,YC,YD,YE,bin2,YF,YG,YH,YI,YJ,YK,YL,YM,YN,YO,YP,YQ,YR,YS,YT,YU,un1,shOk,eqL,eq1,fillL,putAt,IHeap.load1,IHeap.loadL,IHeap.storeL,YV,YW,YX,YY,YZ,B0,B1,B2,B3,B4,B5,B6,B7,B8,B9,Ba,Bb,Bc,Bd,Be,Bf,Bg,Bh,Bi,Bj,Bk,Bl,Bm,Bn,Bo,Bp, c_hurdlelaw21_Few, h60']
    refine loop_nat c.mono (fun k T H' => ∃ i : Nat, i ≤ l.length ∧ k = l.length - i ∧ T 0 = v ∧ T 3 = .int .i64 i ∧ H = H' ∧ ∀ d ∈ l.take i, d.note.votes.length ≤ 10) l.length ?_ ?_
    · refine ⟨0, by omega, rfl, ?_⟩
      simp -implicitDefEqProofs [J0,J1,J2,J3,J4,J5,J6,J7,J8,J9,Ja,Jb,Jc,Jd,Je,Jf,Jg,Jh,Ji,Jj,Jk,Jl,Jm,Jn,Jo,Jp,Jq,Jr,Js,Jt,Ju,Jv,Jw,Jx,Jy,Jz,JA,JB,JC,JD,JE,JF,JG,JH,JI,JJ,JK,JL,JM,JN,JO,JP,JQ,JR,JS,stillI,IOp.kind,JT,JU,JV,JW,JX,JY,JZ,Y0,Y1,Y2,Y3,Y4,Y5,Y6,Y7,Y8,Y9,Ya,Yb,Yc,Yd,Ye,Yf,Yg,Yh,Yi,Yj,Yk,Yl,Ym,Yn,Yo,Yp,Yq,ial,Yr,Ys,Yt,Yu,Yv,Yw,Yx,Yy,ires,iresL,ires1,Yz,YA,YB,YC,YD,YE,bin2,YF,YG,YH,YI,YJ,YK,YL,YM,YN,YO,YP,YQ,YR,YS,YT,YU,un1,shOk,eqL,eq1,fillL,putAt,IHeap.load1,IHeap.loadL,IHeap.storeL,YV,YW,YX,YY,YZ,B0,B1,B2,B3,B4,B5,B6,B7,B8,B9,Ba,Bb,Bc,Bd,Be,Bf,Bg,Bh,Bi,Bj,Bk,Bl,Bm,Bn,Bo,Bp]
      exact hve.symm
    · rintro k T H' ⟨i, hi, rfl, t0, t3, rfl, hd⟩
      by_cases hil : i < l.length
      · have hil' : (i : Int) < (l.length : Int) := by omega
        have wi : IntKind.i64.wrap ((i : Int) + 1) = (i : Int) + 1 := wrap64 (by omega) (by omega)
        obtain ⟨x, hx⟩ : ∃ x, l[i]? = some x := ⟨l[i], List.getElem?_eq_getElem hil⟩
        obtain ⟨b, o, cap, cs, ro, u, e, hb, hg, hrow, hbd, hu⟩ := hv.at hx
        have e2 := row_at hrow 2 (by omega)
        have e9 := row_at hrow 9 (by omega)
        simp only [rowR, rowN, List.getElem?_cons_zero, List.getElem?_cons_succ] at e2 e9
        obtain ⟨ua, uc, hue⟩ := hu.len
        rw [List.length_map] at hue
        have ht : x.text.data.toList.length = x.text.size := rfl
        have e9' : cs[o + i * 10 + 3 + 6]? = some u := e9
        by_cases c1 : 5000 < x.text.size
        · have c1' : (5000 : Int) < (x.text.size : Int) := by omega
          simp -implicitDefEqProofs [J0,J1,J2,J3,J4,J5,J6,J7,J8,J9,Ja,Jb,Jc,Jd,Je,Jf,Jg,Jh,Ji,Jj,Jk,Jl,Jm,Jn,Jo,Jp,Jq,Jr,Js,Jt,Ju,Jv,Jw,Jx,Jy,Jz,JA,JB,JC,JD,JE,JF,JG,JH,JI,JJ,JK,JL,JM,JN,JO,JP,JQ,JR,JS,stillI,IOp.kind,JT,JU,JV,JW,JX,JY,JZ,Y0,Y1,Y2,Y3,Y4,Y5,Y6,Y7,Y8,Y9,Ya,Yb,Yc,Yd,Ye,Yf,Yg,Yh,Yi,Yj,Yk,Yl,Ym,Yn,Yo,Yp,Yq,ial,Yr,Ys,Yt,Yu,Yv,Yw,Yx,Yy,ires,iresL,ires1,Yz,YA,YB,YC,YD,YE,bin2,YF,YG,YH,YI,YJ,YK,YL,YM,YN,YO,YP,YQ,YR,YS,YT,YU,un1,shOk,eqL,eq1,fillL,putAt,IHeap.load1,IHeap.loadL,IHeap.storeL,YV,YW,YX,YY,YZ,B0,B1,B2,B3,B4,B5,B6,B7,B8,B9,Ba,Bb,Bc,Bd,Be,Bf,Bg,Bh,Bi,Bj,Bk,Bl,Bm,Bn,Bo,Bp, t0, t3, e, hg, hil, hil', hbd, e2, e9', ht, hue, c1, c1']
          exact h0
        · have c1' : ¬ (5000 : Int) < (x.text.size : Int) := by omega
          by_cases c2 : 10 < x.note.votes.length
          · have c2' : (10 : Int) < (x.note.votes.length : Int) := by omega
            simp -implicitDefEqProofs [J0,J1,J2,J3,J4,J5,J6,J7,J8,J9,Ja,Jb,Jc,Jd,Je,Jf,Jg,Jh,Ji,Jj,Jk,Jl,Jm,Jn,Jo,Jp,Jq,Jr,Js,Jt,Ju,Jv,Jw,Jx,Jy,Jz,JA,JB,JC,JD,JE,JF,JG,JH,JI,JJ,JK,JL,JM,JN,JO,JP,JQ,JR,JS,stillI,IOp.kind,JT,JU,JV,JW,JX,JY,JZ,Y0,Y1,Y2,Y3,Y4,Y5,Y6,Y7,Y8,Y9,Ya,Yb,Yc,Yd,Ye,Yf,Yg,Yh,Yi,Yj,Yk,Yl,Ym,Yn,Yo,Yp,Yq,ial,Yr,Ys,Yt,Yu,Yv,Yw,Yx,Yy,ires,iresL,ires1,Yz,YA,YB,YC,YD,YE,bin2,YF,YG,YH,YI,YJ,YK,YL,YM,YN,YO,YP,YQ,YR,YS,YT,YU,un1,shOk,eqL,eq1,fillL,putAt,IHeap.load1,IHeap.loadL,IHeap.storeL,YV,YW,YX,YY,YZ,B0,B1,B2,B3,B4,B5,B6,B7,B8,B9,Ba,Bb,Bc,Bd,Be,Bf,Bg,Bh,Bi,Bj,Bk,Bl,Bm,Bn,Bo,Bp, t0, t3, e, hg, hil, hil', hbd, e2, e9', ht, hue, c1, c1', c2']
            exact h0
          · have c2' : ¬ (10 : Int) < (x.note.votes.length : Int) := by omega
            simp -implicitDefEqProofs [J0,J1,J2,J3,J4,J5,J6,J7,J8,J9,Ja,Jb,Jc,Jd,Je,Jf,Jg,Jh,Ji,Jj,Jk,Jl,Jm,Jn,Jo,Jp,Jq,Jr,Js,Jt,Ju,Jv,Jw,Jx,Jy,Jz,JA,JB,JC,JD,JE,JF,JG,JH,JI,JJ,JK,JL,JM,JN,JO,JP,JQ,JR,JS,stillI,IOp.kind,JT,JU,JV,JW,JX,JY,JZ,Y0,Y1,Y2,Y3,Y4,Y5,Y6,Y7,Y8,Y9,Ya,Yb,Yc,Yd,Ye,Yf,Yg,Yh,Yi,Yj,Yk,Yl,Ym,Yn,Yo,Yp,Yq,ial,Yr,Ys,Yt,Yu,Yv,Yw,Yx,Yy,ires,iresL,ires1,Yz,YA,YB,YC,YD,YE,bin2,YF,YG,YH,YI,YJ,YK,YL,YM,YN,YO,YP,YQ,YR,YS,YT,YU,un1,shOk,eqL,eq1,fillL,putAt,IHeap.load1,IHeap.loadL,IHeap.storeL,YV,YW,YX,YY,YZ,B0,B1,B2,B3,B4,B5,B6,B7,B8,B9,Ba,Bb,Bc,Bd,Be,Bf,Bg,Bh,Bi,Bj,Bk,Bl,Bm,Bn,Bo,Bp, t0, t3, e, hg, hil, hil', hbd, e2, e9', ht, hue, c1, c1', c2']
            refine loop_nat c.mono (fun k T H' => ∃ j : Nat, j ≤ x.note.votes.length ∧ k = x.note.votes.length - j ∧ T 0 = v ∧ T 3 = .int .i64 i ∧ T 4 = .int .i64 j ∧ H = H') x.note.votes.length ?_ ?_
            · refine ⟨0, by omega, rfl, ?_⟩
              simp -implicitDefEqProofs [J0,J1,J2,J3,J4,J5,J6,J7,J8,J9,Ja,Jb,Jc,Jd,Je,Jf,Jg,Jh,Ji,Jj,Jk,Jl,Jm,Jn,Jo,Jp,Jq,Jr,Js,Jt,Ju,Jv,Jw,Jx,Jy,Jz,JA,JB,JC,JD,JE,JF,JG,JH,JI,JJ,JK,JL,JM,JN,JO,JP,JQ,JR,JS,stillI,IOp.kind,JT,JU,JV,JW,JX,JY,JZ,Y0,Y1,Y2,Y3,Y4,Y5,Y6,Y7,Y8,Y9,Ya,Yb,Yc,Yd,Ye,Yf,Yg,Yh,Yi,Yj,Yk,Yl,Ym,Yn,Yo,Yp,Yq,ial,Yr,Ys,Yt,Yu,Yv,Yw,Yx,Yy,ires,iresL,ires1,Yz,YA,YB,YC,YD,YE,bin2,YF,YG,YH,YI,YJ,YK,YL,YM,YN,YO,YP,YQ,YR,YS,YT,YU,un1,shOk,eqL,eq1,fillL,putAt,IHeap.load1,IHeap.loadL,IHeap.storeL,YV,YW,YX,YY,YZ,B0,B1,B2,B3,B4,B5,B6,B7,B8,B9,Ba,Bb,Bc,Bd,Be,Bf,Bg,Bh,Bi,Bj,Bk,Bl,Bm,Bn,Bo,Bp, t0, t3]
              done
            · rintro k T H' ⟨j, hj, rfl, t0, t3, t4, rfl⟩
              by_cases hjl : j < x.note.votes.length
              · have hjl' : (j : Int) < (x.note.votes.length : Int) := by omega
                have wj : IntKind.i64.wrap ((j : Int) + 1) = (j : Int) + 1 := wrap64 (by omega) (by omega)
                obtain ⟨y, hy⟩ : ∃ y, x.note.votes[j]? = some y := ⟨x.note.votes[j], List.getElem?_eq_getElem hjl⟩
                obtain ⟨b2, o2, cap2, cs2, ro2, f, hb2, hg2, _, hrow2, hbd2⟩ := hu.1.at (i := j) (r := rowV y) (by rw [List.getElem?_map, hy]; rfl)
                rw [List.length_map] at f
                rw [f] at e9'
                have f0 := row_at hrow2 0 (by omega)
                have f3 := row_at hrow2 3 (by omega)
                simp only [rowV, Nat.add_zero, List.getElem?_cons_zero, List.getElem?_cons_succ] at f0 f3
                have hs : y.val.data.toList.length = y.val.size := rfl
                by_cases d1 : 5000 < y.val.size
                · have d1' : (5000 : Int) < (y.val.size : Int) := by omega
                  simp -implicitDefEqProofs [J0,J1,J2,J3,J4,J5,J6,J7,J8,J9,Ja,Jb,Jc,Jd,Je,Jf,Jg,Jh,Ji,Jj,Jk,Jl,Jm,Jn,Jo,Jp,Jq,Jr,Js,Jt,Ju,Jv,Jw,Jx,Jy,Jz,JA,JB,JC,JD,JE,JF,JG,JH,JI,JJ,JK,JL,JM,JN,JO,JP,JQ,JR,JS,stillI,IOp.kind,JT,JU,JV,JW,JX,JY,JZ,Y0,Y1,Y2,Y3,Y4,Y5,Y6,Y7,Y8,Y9,Ya,Yb,Yc,Yd,Ye,Yf,Yg,Yh,Yi,Yj,Yk,Yl,Ym,Yn,Yo,Yp,Yq,ial,Yr,Ys,Yt,Yu,Yv,Yw,Yx,Yy,ires,iresL,ires1,Yz,YA,YB,YC,YD,YE,bin2,YF,YG,YH,YI,YJ,YK,YL,YM,YN,YO,YP,YQ,YR,YS,YT,YU,un1,shOk,eqL,eq1,fillL,putAt,IHeap.load1,IHeap.loadL,IHeap.storeL,YV,YW,YX,YY,YZ,B0,B1,B2,B3,B4,B5,B6,B7,B8,B9,Ba,Bb,Bc,Bd,Be,Bf,Bg,Bh,Bi,Bj,Bk,Bl,Bm,Bn,Bo,Bp, t0, t3, t4, e, hg, hil, hil', hbd, e9', hjl, hjl', hg2, hbd2, f0, f3, hs, d1']
                  exact h0
                · have d1' : ¬ (5000 : Int) < (y.val.size : Int) := by omega
                  by_cases d2 : 30 < y.slot
                  · by_cases d3 : y.slot < 1024
                    · simp -implicitDefEqProofs [J0,J1,J2,J3,J4,J5,J6,J7,J8,J9,Ja,Jb,Jc,Jd,Je,Jf,Jg,Jh,Ji,Jj,Jk,Jl,Jm,Jn,Jo,Jp,Jq,Jr,Js,Jt,Ju,Jv,Jw,Jx,Jy,Jz,JA,JB,JC,JD,JE,JF,JG,JH,JI,JJ,JK,JL,JM,JN,JO,JP,JQ,JR,JS,stillI,IOp.kind,JT,JU,JV,JW,JX,JY,JZ,Y0,Y1,Y2,Y3,Y4,Y5,Y6,Y7,Y8,Y9,Ya,Yb,Yc,Yd,Ye,Yf,Yg,Yh,Yi,Yj,Yk,Yl,Ym,Yn,Yo,Yp,Yq,ial,Yr,Ys,Yt,Yu,Yv,Yw,Yx,Yy,ires,iresL,ires1,Yz,YA,YB,YC,YD,YE,bin2,YF,YG,YH,YI,YJ,YK,YL,YM,YN,YO,YP,YQ,YR,YS,YT,YU,un1,shOk,eqL,eq1,fillL,putAt,IHeap.load1,IHeap.loadL,IHeap.storeL,YV,YW,YX,YY,YZ,B0,B1,B2,B3,B4,B5,B6,B7,B8,B9,Ba,Bb,Bc,Bd,Be,Bf,Bg,Bh,Bi,Bj,Bk,Bl,Bm,Bn,Bo,Bp, t0, t3, t4, e, hg, hil, hil', hbd, e9', hjl, hjl', hg2, hbd2, f0, f3, hs, d1', d2, d3]
                      exact h0
                    · simp -implicitDefEqProofs [J0,J1,J2,J3,J4,J5,J6,J7,J8,J9,Ja,Jb,Jc,Jd,Je,Jf,Jg,Jh,Ji,Jj,Jk,Jl,Jm,Jn,Jo,Jp,Jq,Jr,Js,Jt,Ju,Jv,Jw,Jx,Jy,Jz,JA,JB,JC,JD,JE,JF,JG,JH,JI,JJ,JK,JL,JM,JN,JO,JP,JQ,JR,JS,stillI,IOp.kind,JT,JU,JV,JW,JX,JY,JZ,Y0,Y1,Y2,Y3,Y4,Y5,Y6,Y7,Y8,Y9,Ya,Yb,Yc,Yd,Ye,Yf,Yg,Yh,Yi,Yj,Yk,Yl,Ym,Yn,Yo,Yp,Yq,ial,Yr,Ys,Yt,Yu,Yv,Yw,Yx,Yy,ires,iresL,ires1,Yz,YA,YB,YC,YD,YE,bin2,YF,YG,YH,YI,YJ,YK,YL,YM,YN,YO,YP,YQ,YR,YS,YT,YU,un1,shOk,eqL,eq1,fillL,putAt,IHeap.load1,IHeap.loadL,IHeap.storeL,YV,YW,YX,YY,YZ,B0,B1,B2,B3,B4,B5,B6,B7,B8,B9,Ba,Bb,Bc,Bd,Be,Bf,Bg,Bh,Bi,Bj,Bk,Bl,Bm,Bn,Bo,Bp, t0, t3, t4, e, hg, hil, hil', hbd, e9', hjl, hjl', hg2, hbd2, f0, f3, hs, d1', d2, d3, wj]
                      exact ⟨x.note.votes.length - (j + 1), by omega, j + 1, by omega, rfl, rfl⟩
                  · simp -implicitDefEqProofs [J0,J1,J2,J3,J4,J5,J6,J7,J8,J9,Ja,Jb,Jc,Jd,Je,Jf,Jg,Jh,Ji,Jj,Jk,Jl,Jm,Jn,Jo,Jp,Jq,Jr,Js,Jt,Ju,Jv,Jw,Jx,Jy,Jz,JA,JB,JC,JD,JE,JF,JG,JH,JI,JJ,JK,JL,JM,JN,JO,JP,JQ,JR,JS,stillI,IOp.kind,JT,JU,JV,JW,JX,JY,JZ,Y0,Y1,Y2,Y3,Y4,Y5,Y6,Y7,Y8,Y9,Ya,Yb,Yc,Yd,Ye,Yf,Yg,Yh,Yi,Yj,Yk,Yl,Ym,Yn,Yo,Yp,Yq,ial,Yr,Ys,Yt,Yu,Yv,Yw,Yx,Yy,ires,iresL,ires1,Yz,YA,YB,YC,YD,YE,bin2,YF,YG,YH,YI,YJ,YK,YL,YM,YN,YO,YP,YQ,YR,YS,YT,YU,un1,shOk,eqL,eq1,fillL,putAt,IHeap.load1,IHeap.loadL,IHeap.storeL,YV,YW,YX,YY,YZ,B0,B1,B2,B3,B4,B5,B6,B7,B8,B9,Ba,Bb,Bc,Bd,Be,Bf,Bg,Bh,Bi,Bj,Bk,Bl,Bm,Bn,Bo,Bp, t0, t3, t4, e, hg, hil, hil', hbd, e9', hjl, hjl', hg2, hbd2, f0, f3, hs, d1', d2, wj]
                    exact ⟨x.note.votes.length - (j + 1), by omega, j + 1, by omega, rfl, rfl⟩
              · have hjl' : ¬ (j : Int) < (x.note.votes.length : Int) := by omega
                simp -implicitDefEqProofs [J0,J1,J2,J3,J4,J5,J6,J7,J8,J9,Ja,Jb,Jc,Jd,Je,Jf,Jg,Jh,Ji,Jj,Jk,Jl,Jm,Jn,Jo,Jp,Jq,Jr,Js,Jt,Ju,Jv,Jw,Jx,Jy,Jz,JA,JB,JC,JD,JE,JF,JG,JH,JI,JJ,JK,JL,JM,JN,JO,JP,JQ,JR,JS,stillI,IOp.kind,JT,JU,JV,JW,JX,JY,JZ,Y0,Y1,Y2,Y3,Y4,Y5,Y6,Y7,Y8,Y9,Ya,Yb,Yc,Yd,Ye,Yf,Yg,Yh,Yi,Yj,Yk,Yl,Ym,Yn,Yo,Yp,Yq,ial,Yr,Ys,Yt,Yu,Yv,Yw,Yx,Yy,ires,iresL,ires1,Yz,YA,YB,YC,YD,YE,bin2,YF,YG,YH,YI,YJ,YK,YL,YM,YN,YO,YP,YQ,YR,YS,YT,YU,un1,shOk,eqL,eq1,fillL,putAt,IHeap.load1,IHeap.loadL,IHeap.storeL,YV,YW,YX,YY,YZ,B0,B1,B2,B3,B4,B5,B6,B7,B8,B9,Ba,Bb,Bc,Bd,Be,Bf,Bg,Bh,Bi,Bj,Bk,Bl,Bm,Bn,Bo,Bp, t0, t3, t4, e, hg, hil, hil', hbd, e9', hue, hjl, hjl', wi]
                refine ⟨l.length - (i + 1), by omega, i + 1, by omega, rfl, rfl, fun d hd' => ?_⟩
                rw [List.take_add_one, hx] at hd'
                rcases List.mem_append.1 hd' with hd' | hd'
                · exact hd d hd'
                · simp only [Option.toList_some, List.mem_singleton] at hd'
                  subst hd'
                  omega
      · have hil' : ¬ (i : Int) < (l.length : Int) := by omega
        simp -implicitDefEqProofs [J0,J1,J2,J3,J4,J5,J6,J7,J8,J9,Ja,Jb,Jc,Jd,Je,Jf,Jg,Jh,Ji,Jj,Jk,Jl,Jm,Jn,Jo,Jp,Jq,Jr,Js,Jt,Ju,Jv,Jw,Jx,Jy,Jz,JA,JB,JC,JD,JE,JF,JG,JH,JI,JJ,JK,JL,JM,JN,JO,JP,JQ,JR,JS,stillI,IOp.kind,JT,JU,JV,JW,JX,JY,JZ,Y0,Y1,Y2,Y3,Y4,Y5,Y6,Y7,Y8,Y9,Ya,Yb,Yc,Yd,Ye,Yf,Yg,Yh,Yi,Yj,Yk,Yl,Ym,Yn,Yo,Yp,Yq,ial,Yr,Ys,Yt,Yu,Yv,Yw,Yx,Yy,ires,iresL,ires1,Yz,YA,YB,YC,YD,YE,bin2,YF,YG,YH,YI,YJ,YK,YL,YM,YN,YO,YP,YQ,YR,YS,YT,YU,un1,shOk,eqL,eq1,fillL,putAt,IHeap.load1,IHeap.loadL,IHeap.storeL,YV,YW,YX,YY,YZ,B0,B1,B2,B3,B4,B5,B6,B7,B8,B9,Ba,Bb,Bc,Bd,Be,Bf,Bg,Bh,Bi,Bj,Bk,Bl,Bm,Bn,Bo,Bp, t0, t3, hve, hil, hil']
        exact h1 h60 (by rw [List.take_of_length_le (by omega)] at hd; exact hd)
  · have h60' : (60 : Int) < (l.length : Int) := by omega
    rw [hve]
    simp -implicitDefEqProofs [J0,J1,J2,J3,J4,J5,J6,J7,J8,J9,Ja,Jb,Jc,Jd,Je,Jf,Jg,Jh,Ji,Jj,Jk,Jl,Jm,Jn,Jo,Jp,Jq,Jr,Js,Jt,Ju,Jv,Jw,Jx,Jy,Jz,JA,JB,JC,JD,JE,JF,JG,JH,JI,JJ,JK,JL,JM,JN,JO,JP,JQ,JR,JS,stillI,IOp.kind,JT,JU,JV,JW,JX,JY,JZ,Y0,Y1,Y2,Y3,Y4,Y5,Y6,Y7,Y8,Y9,Ya,Yb,Yc,Yd,Ye,Yf,Yg,Yh,Yi,Yj,Yk,Yl,Ym,Yn,Yo,Yp,Yq,ial,Yr,Ys,Yt,Yu,Yv,Yw,Yx,Yy,ires,iresL,ires1,Yz,YA,YB,YC,YD,YE,bin2,YF,YG,YH,YI,YJ,YK,YL,YM,YN,YO,YP,YQ,YR,YS,YT,YU,un1,shOk,eqL,eq1,fillL,putAt,IHeap.load1,IHeap.loadL,IHeap.storeL,YV,YW,YX,YY,YZ,B0,B1,B2,B3,B4,B5,B6,B7,B8,B9,Ba,Bb,Bc,Bd,Be,Bf,Bg,Bh,Bi,Bj,Bk,Bl,Bm,Bn,Bo,Bp, c_hurdlelaw21_Few, h60']
    exact h0
end
end Go.Proofs.YtfmjbmddghjjmaaI
namespace Go.Proofs.YtfmjbmddghjjmaaI
set_option linter.unusedSimpArgs false
set_option linter.unusedVariables false
open Go

theorem short_deed {R : Rp} (h : R.ok) (hs : Sorted R.A.L) (d : DeedR) : Short (R.deed d).2 := by
  unfold Rp.deed
  split
  · exact short_lead h
  split
  · exact short_propose h d.text
  split
  · exact short_take h hs d.note
  split
  · exact short_ask R d.to
  · exact short_nil
theorem asks_take {l : List NoteD} {k : Nat} {x : NoteD} (h : l[k]? = some x) : asks (l.take (k + 1)) = asks (l.take k) ++ (askV x).toList := by
  rw [List.take_add_one, h, asks_append]
  show asks (l.take k) ++ [x].filterMap askV = _
  cases ha : askV x with
  | none => simp [ha]
  | some v => simp [ha]
theorem asks_split {l : List NoteD} {k : Nat} {x : NoteD} {v : VoteD} (h : l[k]? = some x) (hv : askV x = some v) : ∃ m, asks l = asks (l.take k) ++ v :: m := by
  refine ⟨asks (l.drop (k + 1)), ?_⟩
  have e : asks l = asks (l.take (k + 1)) ++ asks (l.drop (k + 1)) := by rw [← asks_append, List.take_append_drop]
  rw [e, asks_take h, hv]
  simp
theorem new_key {As m : List VoteD} {l : List NoteD} {k : Nat} {v : VoteD} (hm : asks l = asks (l.take k) ++ v :: m) (hn : ((As ++ asks l).map keyV).Nodup) {w : VoteD} (hw : w ∈ As ++ asks (l.take k)) : keyV w ≠ keyV v := by
  rw [hm, ← List.append_assoc, List.map_append, List.nodup_append] at hn
  exact hn.2.2 _ (List.mem_map_of_mem hw) _ (by simp)

theorem one_vote {H : IHeap} {b : Nat} {v : VoteD} (hg : H.get b = some (.cells (rowV v) false)) (hb : b < H.next) : SwD (fun z => z = b) H 4 (.slice (some ⟨b, 0, none⟩) 1 1) ([v].map rowV) := by
  have hsr : SlR H 4 (.slice (some ⟨b, 0, none⟩) 1 1) ([v].map rowV) := ⟨_, 1, rfl, fun _ => ⟨b, 0, _, false, rfl, hb, hg, fun j r hj => by
    match j, hj with
    | 0, hj => simp at hj; subst hj; exact ⟨rfl, rfl, Nat.le_refl _⟩
    | j + 1, hj => simp at hj⟩⟩
  refine ⟨⟨hsr, fun b' o n' cc e _ => ?_⟩, hsr, _, 1, rfl, .inr ⟨_, _, rfl⟩, .inl ⟨by unfold UNK; omega, Nat.le_refl _⟩⟩
  simp only [Value.slice.injEq, Option.some.injEq, Addr.mk.injEq] at e
  exact e.1.1.symm
/-- Between deeds. -/
def OwnI (p : Nat) (n me : Int) (H : IHeap) (N : Nat) (w : Value) (H' : IHeap) : Prop :=
  ∃ (R : Rp) (As : List VoteD) (B : Nat → Prop) (o : Option Nat), H.le H' ∧ (∀ b, B b → H.next ≤ b) ∧ IsR B H' p R ∧ R.ok ∧ R.n = n ∧ R.me = me ∧ GrowAt o H' 4 w (As.map rowV) ∧ (∀ b, o = some b → ¬ B b ∧ H.next ≤ b) ∧ AskJ R.P As ∧ As.length ≤ 7168 * N
/-- Behind one. -/
def OutI (p : Nat) (n me : Int) (H : IHeap) (N : Nat) (w u : Value) (H' : IHeap) : Prop :=
  ∃ (R : Rp) (l : List NoteD) (As : List VoteD) (B : Nat → Prop) (o : Option Nat), H.le H' ∧ (∀ b, B b → H.next ≤ b) ∧ IsR B H' p R ∧ R.ok ∧ R.n = n ∧ R.me = me ∧ NtsD (fun b => b < H'.next ∧ ¬ B b ∧ o ≠ some b) H' u l ∧
    GrowAt o H' 4 w (As.map rowV) ∧ (∀ b, o = some b → ¬ B b ∧ H.next ≤ b) ∧ AskJ R.P (As ++ asks l) ∧ (∀ y ∈ l, OkN R y) ∧ Short l ∧ As.length ≤ 7168 * N
/-- Within what it says. -/
def InI (p : Nat) (H : IHeap) (R : Rp) (l : List NoteD) (As : List VoteD) (B D : Nat → Prop) (u : Value) (j : Nat) (w : Value) (H' : IHeap) : Prop :=
  ∃ o : Option Nat, H.le H' ∧ IsR B H' p R ∧ NtsD D H' u l ∧ GrowAt o H' 4 w ((As ++ asks (l.take j)).map rowV) ∧ ∀ b, o = some b → ¬ B b ∧ ¬ D b ∧ H.next ≤ b
theorem outI {p : Nat} {n me : Int} {H H' H3 : IHeap} {N : Nat} {w u : Value} {R : Rp} {As : List VoteD} {B : Nat → Prop} {o : Option Nat} {d : DeedR}
    (hle : H.le H') (hB : ∀ b, B b → H.next ≤ b) (hr : IsR B H' p R) (ho : R.ok) (hn : R.n = n) (hm : R.me = me) (hw : GrowAt o H' 4 w (As.map rowV)) (hO : ∀ b, o = some b → ¬ B b ∧ H.next ≤ b) (hj : AskJ R.P As) (hN : As.length ≤ 7168 * N)
    (sd : Said B H' p (R.deed d).1 (R.deed d).2 u H3) : OutI p n me H N w u H3 := by
  obtain ⟨B', f, s, r, nt⟩ := sd
  have hd := ho.deed d
  have hn' := hle.next
  have fn := f.next
  have hob : ∀ b, o = some b → b < H'.next := fun b e => by subst e; exact hw.1
  refine ⟨(R.deed d).1, (R.deed d).2, As, B', o, ⟨by omega, fun b hb => (f.get b (by omega) fun hh => by have := hB b hh; omega).trans (hle.get b hb)⟩, fun b hb => (s b hb).elim (hB b) (by omega), r, hd.1, hd.2.1.trans hn, hd.2.2.trans hm,
    nt.weak fun b hb => ⟨hb.2.1, hb.2.2, fun e => by have := hob b e; omega⟩, hw.fr f fun b e => (hO b e).1, fun b e => ⟨fun hh => ?_, (hO b e).2⟩, ask_deed ho hj d, fun y hy => ?_, short_deed ho hr.sorted d, hN⟩
  · rcases s b hh with z | z
    · exact (hO b e).1 z
    · have := hob b e; omega
  · have := okN_deed d hy
    unfold OkN at this ⊢
    rw [hd.2.1, hd.2.2]
    exact this

section
variable (c : Ctx) (hc : NodeC c) (hL : HasLaw21 c) {H : IHeap} {K : Value → IHeap → Prop}

include hc hL in
theorem own_ok21 (hW : ∀ H K, (∀ H', K (.bool true) H') → c.C (c.F n_hurdlelaw21_awake) [] H K) {n me : Int} {v : Value} {l : List DeedR} (hv : DsR H v l) (hK : ∀ H', K (.bool true) H') :
    c.C (c.F n_hurdlelaw21_ReplicaOwn) [.int .i64 n, .int .i64 me, v] H K := by
  refine c.enter hL.hurdlelaw21_ReplicaOwn rfl ?_
  obtain ⟨va, vc, hve⟩ := hv.len
  simp -implicitDefEqProofs [J0,J1,J2,J3,J4,J5,J6,J7,J8,J9,Ja,Jb,Jc,Jd,Je,Jf,Jg,Jh,Ji,Jj,Jk,Jl,Jm,Jn,Jo,Jp,Jq,Jr,Js,Jt,Ju,Jv,Jw,Jx,Jy,Jz,JA,JB,JC,JD,JE,JF,JG,JH,JI,JJ,JK,JL,JM,JN,JO,JP,JQ,JR,JS,stillI,IOp.kind,JT,JU,JV,JW,JX,JY,JZ,Y0,Y1,Y2,Y3,Y4,Y5,Y6,Y7,Y8,Y9,Ya,Yb,Yc,Yd,Ye,Yf,Yg,Yh,Yi,Yj,Yk,Yl,Ym,Yn,Yo,Yp,Yq,ial,Yr,Ys,Yt,Yu,Yv,Yw,Yx,Yy,ires,iresL,ires1,Yz,YA,YB,YC,YD,YE,bin2,YF,YG,YH,YI,YJ,YK,YL,YM,YN,YO,YP,YQ,YR,YS,YT,YU,un1,shOk,eqL,eq1,fillL,putAt,IHeap.load1,IHeap.loadL,IHeap.storeL,YV,YW,YX,YY,YZ,B0,B1,B2,B3,B4,B5,B6,B7,B8,B9,Ba,Bb,Bc,Bd,Be,Bf,Bg,Bh,Bi,Bj,Bk,Bl,Bm,Bn,Bo,Bp, c_hurdlelaw21_ReplicaOwn]
  refine call_of (Few_ok c hL hv ?_ fun h60 hvl => ?_)
  · simp -implicitDefEqProofs [J0,J1,J2,J3,J4,J5,J6,J7,J8,J9,Ja,Jb,Jc,Jd,Je,Jf,Jg,Jh,Ji,Jj,Jk,Jl,Jm,Jn,Jo,Jp,Jq,Jr,Js,Jt,Ju,Jv,Jw,Jx,Jy,Jz,JA,JB,JC,JD,JE,JF,JG,JH,JI,JJ,JK,JL,JM,JN,JO,JP,JQ,JR,JS,stillI,IOp.kind,JT,JU,JV,JW,JX,JY,JZ,Y0,Y1,Y2,Y3,Y4,Y5,Y6,Y7,Y8,Y9,Ya,Yb,Yc,Yd,Ye,Yf,Yg,Yh,Yi,Yj,Yk,Yl,Ym,Yn,Yo,Yp,Yq,ial,Yr,Ys,Yt,Yu,Yv,Yw,Yx,Yy,ires,iresL,ires1,Yz,YA,YB,YC,YD,YE,bin2,YF,YG,YH,YI,YJ,YK,YL,YM,YN,YO,YP,YQ,YR,YS,YT,YU,un1,shOk,eqL,eq1,fillL,putAt,IHeap.load1,IHeap.loadL,IHeap.storeL,YV,YW,YX,YY,YZ,B0,B1,B2,B3,B4,B5,B6,B7,B8,B9,Ba,Bb,Bc,Bd,Be,Bf,Bg,Bh,Bi,Bj,Bk,Bl,Bm,Bn,Bo,Bp]
    refine call_of (hW _ _ fun H' => ?_)
    simp -implicitDefEqProofs [J0,J1,J2,J3,J4,J5,J6,J7,J8,J9,Ja,Jb,Jc,Jd,Je,Jf,Jg,Jh,Ji,Jj,Jk,Jl,Jm,Jn,Jo,Jp,Jq,Jr,Js,Jt,Ju,Jv,Jw,Jx,Jy,Jz,JA,JB,JC,JD,JE,JF,JG,JH,JI,JJ,JK,JL,JM,JN,JO,JP,JQ,JR,JS,stillI,IOp.kind,JT,JU,JV,JW,JX,JY,JZ,Y0,Y1,Y2,Y3,Y4,Y5,Y6,Y7,Y8,Y9,Ya,Yb,Yc,Yd,Ye,Yf,Yg,Yh,Yi,Yj,Yk,Yl,Ym,Yn,Yo,Yp,Yq,ial,Yr,Ys,Yt,Yu,Yv,Yw,Yx,Yy,ires,iresL,ires1,Yz,YA,YB,YC,YD,YE,bin2,YF,YG,YH,YI,YJ,YK,YL,YM,YN,YO,YP,YQ,YR,YS,YT,YU,un1,shOk,eqL,eq1,fillL,putAt,IHeap.load1,IHeap.loadL,IHeap.storeL,YV,YW,YX,YY,YZ,B0,B1,B2,B3,B4,B5,B6,B7,B8,B9,Ba,Bb,Bc,Bd,Be,Bf,Bg,Bh,Bi,Bj,Bk,Bl,Bm,Bn,Bo,Bp]
    exact hK _
  · simp -implicitDefEqProofs [J0,J1,J2,J3,J4,J5,J6,J7,J8,J9,Ja,Jb,Jc,Jd,Je,Jf,Jg,Jh,Ji,Jj,Jk,Jl,Jm,Jn,Jo,Jp,Jq,Jr,Js,Jt,Ju,Jv,Jw,Jx,Jy,Jz,JA,JB,JC,JD,JE,JF,JG,JH,JI,JJ,JK,JL,JM,JN,JO,JP,JQ,JR,JS,stillI,IOp.kind,JT,JU,JV,JW,JX,JY,JZ,Y0,Y1,Y2,Y3,Y4,Y5,Y6,Y7,Y8,Y9,Ya,Yb,Yc,Yd,Ye,Yf,Yg,Yh,Yi,Yj,Yk,Yl,Ym,Yn,Yo,Yp,Yq,ial,Yr,Ys,Yt,Yu,Yv,Yw,Yx,Yy,ires,iresL,ires1,Yz,YA,YB,YC,YD,YE,bin2,YF,YG,YH,YI,YJ,YK,YL,YM,YN,YO,YP,YQ,YR,YS,YT,YU,un1,shOk,eqL,eq1,fillL,putAt,IHeap.load1,IHeap.loadL,IHeap.storeL,YV,YW,YX,YY,YZ,B0,B1,B2,B3,B4,B5,B6,B7,B8,B9,Ba,Bb,Bc,Bd,Be,Bf,Bg,Bh,Bi,Bj,Bk,Bl,Bm,Bn,Bo,Bp]
    refine call_of (RNew_ok c hc (fun hbad H1 k1 => ?_) fun q1 q2 q3 p B H1 k1 bb1 i1 => ?_)
    · simp -implicitDefEqProofs [J0,J1,J2,J3,J4,J5,J6,J7,J8,J9,Ja,Jb,Jc,Jd,Je,Jf,Jg,Jh,Ji,Jj,Jk,Jl,Jm,Jn,Jo,Jp,Jq,Jr,Js,Jt,Ju,Jv,Jw,Jx,Jy,Jz,JA,JB,JC,JD,JE,JF,JG,JH,JI,JJ,JK,JL,JM,JN,JO,JP,JQ,JR,JS,stillI,IOp.kind,JT,JU,JV,JW,JX,JY,JZ,Y0,Y1,Y2,Y3,Y4,Y5,Y6,Y7,Y8,Y9,Ya,Yb,Yc,Yd,Ye,Yf,Yg,Yh,Yi,Yj,Yk,Yl,Ym,Yn,Yo,Yp,Yq,ial,Yr,Ys,Yt,Yu,Yv,Yw,Yx,Yy,ires,iresL,ires1,Yz,YA,YB,YC,YD,YE,bin2,YF,YG,YH,YI,YJ,YK,YL,YM,YN,YO,YP,YQ,YR,YS,YT,YU,un1,shOk,eqL,eq1,fillL,putAt,IHeap.load1,IHeap.loadL,IHeap.storeL,YV,YW,YX,YY,YZ,B0,B1,B2,B3,B4,B5,B6,B7,B8,B9,Ba,Bb,Bc,Bd,Be,Bf,Bg,Bh,Bi,Bj,Bk,Bl,Bm,Bn,Bo,Bp, nilOf]
      refine call_of (hW _ _ fun H' => ?_)
      simp -implicitDefEqProofs [J0,J1,J2,J3,J4,J5,J6,J7,J8,J9,Ja,Jb,Jc,Jd,Je,Jf,Jg,Jh,Ji,Jj,Jk,Jl,Jm,Jn,Jo,Jp,Jq,Jr,Js,Jt,Ju,Jv,Jw,Jx,Jy,Jz,JA,JB,JC,JD,JE,JF,JG,JH,JI,JJ,JK,JL,JM,JN,JO,JP,JQ,JR,JS,stillI,IOp.kind,JT,JU,JV,JW,JX,JY,JZ,Y0,Y1,Y2,Y3,Y4,Y5,Y6,Y7,Y8,Y9,Ya,Yb,Yc,Yd,Ye,Yf,Yg,Yh,Yi,Yj,Yk,Yl,Ym,Yn,Yo,Yp,Yq,ial,Yr,Ys,Yt,Yu,Yv,Yw,Yx,Yy,ires,iresL,ires1,Yz,YA,YB,YC,YD,YE,bin2,YF,YG,YH,YI,YJ,YK,YL,YM,YN,YO,YP,YQ,YR,YS,YT,YU,un1,shOk,eqL,eq1,fillL,putAt,IHeap.load1,IHeap.loadL,IHeap.storeL,YV,YW,YX,YY,YZ,B0,B1,B2,B3,B4,B5,B6,B7,B8,B9,Ba,Bb,Bc,Bd,Be,Bf,Bg,Bh,Bi,Bj,Bk,Bl,Bm,Bn,Bo,Bp]
      exact hK _
    · have ok0 : (Rp.new n me).ok := Rp.new_ok q1 q2 q3
      simp -implicitDefEqProofs [J0,J1,J2,J3,J4,J5,J6,J7,J8,J9,Ja,Jb,Jc,Jd,Je,Jf,Jg,Jh,Ji,Jj,Jk,Jl,Jm,Jn,Jo,Jp,Jq,Jr,Js,Jt,Ju,Jv,Jw,Jx,Jy,Jz,JA,JB,JC,JD,JE,JF,JG,JH,JI,JJ,JK,JL,JM,JN,JO,JP,JQ,JR,JS,stillI,IOp.kind,JT,JU,JV,JW,JX,JY,JZ,Y0,Y1,Y2,Y3,Y4,Y5,Y6,Y7,Y8,Y9,Ya,Yb,Yc,Yd,Ye,Yf,Yg,Yh,Yi,Yj,Yk,Yl,Ym,Yn,Yo,Yp,Yq,ial,Yr,Ys,Yt,Yu,Yv,Yw,Yx,Yy,ires,iresL,ires1,Yz,YA,YB,YC,YD,YE,bin2,YF,YG,YH,YI,YJ,YK,YL,YM,YN,YO,YP,YQ,YR,YS,YT,YU,un1,shOk,eqL,eq1,fillL,putAt,IHeap.load1,IHeap.loadL,IHeap.storeL,YV,YW,YX,YY,YZ,B0,B1,B2,B3,B4,B5,B6,B7,B8,B9,Ba,Bb,Bc,Bd,Be,Bf,Bg,Bh,Bi,Bj,Bk,Bl,Bm,Bn,Bo,Bp, nilOf]
      refine loop_nat c.mono (fun k T H' => ∃ i : Nat, i ≤ l.length ∧ k = l.length - i ∧ T 0 = .int .i64 n ∧ T 1 = .int .i64 me ∧ T 2 = v ∧ T 7 = .pointer (some ⟨p, 0, none⟩) ∧ T 9 = .int .i64 i ∧ OwnI p n me H i (T 8) H') l.length ?_ ?_
      · refine ⟨0, by omega, rfl, ?_⟩
        simp -implicitDefEqProofs [J0,J1,J2,J3,J4,J5,J6,J7,J8,J9,Ja,Jb,Jc,Jd,Je,Jf,Jg,Jh,Ji,Jj,Jk,Jl,Jm,Jn,Jo,Jp,Jq,Jr,Js,Jt,Ju,Jv,Jw,Jx,Jy,Jz,JA,JB,JC,JD,JE,JF,JG,JH,JI,JJ,JK,JL,JM,JN,JO,JP,JQ,JR,JS,stillI,IOp.kind,JT,JU,JV,JW,JX,JY,JZ,Y0,Y1,Y2,Y3,Y4,Y5,Y6,Y7,Y8,Y9,Ya,Yb,Yc,Yd,Ye,Yf,Yg,Yh,Yi,Yj,Yk,Yl,Ym,Yn,Yo,Yp,Yq,ial,Yr,Ys,Yt,Yu,Yv,Yw,Yx,Yy,ires,iresL,ires1,Yz,YA,YB,YC,YD,YE,bin2,YF,YG,YH,YI,YJ,YK,YL,YM,YN,YO,YP,YQ,YR,YS,YT,YU,un1,shOk,eqL,eq1,fillL,putAt,IHeap.load1,IHeap.loadL,IHeap.storeL,YV,YW,YX,YY,YZ,B0,B1,B2,B3,B4,B5,B6,B7,B8,B9,Ba,Bb,Bc,Bd,Be,Bf,Bg,Bh,Bi,Bj,Bk,Bl,Bm,Bn,Bo,Bp]
        exact ⟨Rp.new n me, [], B, none, k1, bb1, i1, ok0, rfl, rfl, ⟨rfl, rfl⟩, by simp, ⟨⟨fun _ => rfl, by simp⟩, List.nodup_nil⟩, by simp⟩
      · rintro k T H' ⟨i, hi, rfl, t0, t1, t2, t7, t9, own⟩
        obtain ⟨w, t8⟩ : ∃ w, T 8 = w := ⟨_, rfl⟩
        rw [t8] at own
        by_cases hil : i < l.length
        · have hil' : (i : Int) < (l.length : Int) := by omega
          have wi : IntKind.i64.wrap ((i : Int) + 1) = (i : Int) + 1 := wrap64 (by omega) (by omega)
          obtain ⟨d, hd⟩ : ∃ d, l[i]? = some d := ⟨l[i], List.getElem?_eq_getElem hil⟩
          obtain ⟨R, As, Bx0, o, hle, hB, hr, ho, hn, hm, hw, hO, hj, hN⟩ := own
          obtain ⟨b, oo, cap, cs, ro, u, e, hb, hg0, hrow, hbd, hu⟩ := hv.at hd
          have hg := (hle.get b hb).trans hg0
          simp only [rowR, rowN] at hrow
          obtain ⟨ua, uc, hue⟩ := hu.len
          rw [List.length_map] at hue
          have o1 : one1 u = true := by rw [hue]; rfl
          obtain ⟨HV, hHV⟩ : ∃ X : IHeap, X = (H'.alloc (.cells [.int .i64 0, .int .i64 0, .string ⟨#[]⟩, .int .i64 0, .int .i64 0, .int .i64 0, .int .i64 0, .int .i64 0, .int .i64 0, .slice none 0 0] false)).set H'.next
            (.cells [.int .i64 d.kind, .int .i64 d.to, .string d.text, .int .i64 d.note.kind, .int .i64 d.note.fr, .int .i64 d.note.to, .int .i64 d.note.slot, .int .i64 d.note.ba, .int .i64 d.note.bn, u] false) := ⟨_, rfl⟩
          have kV : H'.le HV := by rw [hHV]; exact (H'.le_alloc _).set (Nat.le_refl _) _
          have nV : HV.next = H'.next + 1 := by rw [hHV]; rfl
          have gV : HV.get H'.next = some (.cells [.int .i64 d.kind, .int .i64 d.to, .string d.text, .int .i64 d.note.kind, .int .i64 d.note.fr, .int .i64 d.note.to, .int .i64 d.note.slot, .int .i64 d.note.ba, .int .i64 d.note.bn, u] false) := by rw [hHV, YW, if_pos rfl]
          simp -implicitDefEqProofs [J0,J1,J2,J3,J4,J5,J6,J7,J8,J9,Ja,Jb,Jc,Jd,Je,Jf,Jg,Jh,Ji,Jj,Jk,Jl,Jm,Jn,Jo,Jp,Jq,Jr,Js,Jt,Ju,Jv,Jw,Jx,Jy,Jz,JA,JB,JC,JD,JE,JF,JG,JH,JI,JJ,JK,JL,JM,JN,JO,JP,JQ,JR,JS,stillI,IOp.kind,JT,JU,JV,JW,JX,JY,JZ,Y0,Y1,Y2,Y3,Y4,Y5,Y6,Y7,Y8,Y9,Ya,Yb,Yc,Yd,Ye,Yf,Yg,Yh,Yi,Yj,Yk,Yl,Ym,Yn,Yo,Yp,Yq,ial,Yr,Ys,Yt,Yu,Yv,Yw,Yx,Yy,ires,iresL,ires1,Yz,YA,YB,YC,YD,YE,bin2,YF,YG,YH,YI,YJ,YK,YL,YM,YN,YO,YP,YQ,YR,YS,YT,YU,un1,shOk,eqL,eq1,fillL,putAt,IHeap.load1,IHeap.loadL,IHeap.storeL,YV,YW,YX,YY,YZ,B0,B1,B2,B3,B4,B5,B6,B7,B8,B9,Ba,Bb,Bc,Bd,Be,Bf,Bg,Bh,Bi,Bj,Bk,Bl,Bm,Bn,Bo,Bp, t0, t1, t2, t7, t8, t9, e, hil, hil', hg, hrow, hbd, o1, ← hHV, -J5]
          rw [J5]
          simp -implicitDefEqProofs [J0,J1,J2,J3,J4,J5,J6,J7,J8,J9,Ja,Jb,Jc,Jd,Je,Jf,Jg,Jh,Ji,Jj,Jk,Jl,Jm,Jn,Jo,Jp,Jq,Jr,Js,Jt,Ju,Jv,Jw,Jx,Jy,Jz,JA,JB,JC,JD,JE,JF,JG,JH,JI,JJ,JK,JL,JM,JN,JO,JP,JQ,JR,JS,stillI,IOp.kind,JT,JU,JV,JW,JX,JY,JZ,Y0,Y1,Y2,Y3,Y4,Y5,Y6,Y7,Y8,Y9,Ya,Yb,Yc,Yd,Ye,Yf,Yg,Yh,Yi,Yj,Yk,Yl,Ym,Yn,Yo,Yp,Yq,ial,Yr,Ys,Yt,Yu,Yv,Yw,Yx,Yy,ires,iresL,ires1,Yz,YA,YB,YC,YD,YE,bin2,YF,YG,YH,YI,YJ,YK,YL,YM,YN,YO,YP,YQ,YR,YS,YT,YU,un1,shOk,eqL,eq1,fillL,putAt,IHeap.load1,IHeap.loadL,IHeap.storeL,YV,YW,YX,YY,YZ,B0,B1,B2,B3,B4,B5,B6,B7,B8,B9,Ba,Bb,Bc,Bd,Be,Bf,Bg,Bh,Bi,Bj,Bk,Bl,Bm,Bn,Bo,Bp, t0, t1, t2, t7, t8, t9, e, hil, hil', hg, hrow, hbd, o1, ← hHV, gV, -J5]
          refine iwp_mono (Q := fun e T' H3 => e = .normal ∧ T' 0 = .int .i64 n ∧ T' 1 = .int .i64 me ∧ T' 2 = v ∧ T' 7 = .pointer (some ⟨p, 0, none⟩) ∧ T' 8 = w ∧ T' 9 = .int .i64 i ∧ OutI p n me H i w (T' 10) H3) c.mono _ ?_ ?_
          · rintro e' T' H3 ⟨rfl, t0, t1, t2, t7, t8, t9, out⟩
            obtain ⟨u3, t10⟩ : ∃ u3, T' 10 = u3 := ⟨_, rfl⟩
            rw [t10] at out
            obtain ⟨R3, l3, As3, Bx3, o3, le3, B3b, r3, ok3, n3, m3, nt3, g3, O3, j3, hok3, sh3, N3⟩ := out
            obtain ⟨oa, ocap, hoe⟩ := nt3.len
            have hl3 := sh3.1
            obtain ⟨D3, hD3⟩ : ∃ D : Nat → Prop, D = fun b => b < H3.next ∧ ¬ Bx3 b ∧ o3 ≠ some b := ⟨_, rfl⟩
            rw [← hD3] at nt3
            have hDlt : ∀ b, D3 b → b < H3.next := by rw [hD3]; exact fun b hb => hb.1
            have hal : ∀ m, (asks (l3.take m)).length ≤ 7168 := fun m => by
              have h1 := List.length_filterMap_le askV (l3.take m)
              rw [List.length_take] at h1
              show (List.filterMap askV (l3.take m)).length ≤ 7168
              omega
            simp -implicitDefEqProofs [J0,J1,J2,J3,J4,J5,J6,J7,J8,J9,Ja,Jb,Jc,Jd,Je,Jf,Jg,Jh,Ji,Jj,Jk,Jl,Jm,Jn,Jo,Jp,Jq,Jr,Js,Jt,Ju,Jv,Jw,Jx,Jy,Jz,JA,JB,JC,JD,JE,JF,JG,JH,JI,JJ,JK,JL,JM,JN,JO,JP,JQ,JR,JS,stillI,IOp.kind,JT,JU,JV,JW,JX,JY,JZ,Y0,Y1,Y2,Y3,Y4,Y5,Y6,Y7,Y8,Y9,Ya,Yb,Yc,Yd,Ye,Yf,Yg,Yh,Yi,Yj,Yk,Yl,Ym,Yn,Yo,Yp,Yq,ial,Yr,Ys,Yt,Yu,Yv,Yw,Yx,Yy,ires,iresL,ires1,Yz,YA,YB,YC,YD,YE,bin2,YF,YG,YH,YI,YJ,YK,YL,YM,YN,YO,YP,YQ,YR,YS,YT,YU,un1,shOk,eqL,eq1,fillL,putAt,IHeap.load1,IHeap.loadL,IHeap.storeL,YV,YW,YX,YY,YZ,B0,B1,B2,B3,B4,B5,B6,B7,B8,B9,Ba,Bb,Bc,Bd,Be,Bf,Bg,Bh,Bi,Bj,Bk,Bl,Bm,Bn,Bo,Bp, t0, t1, t2, t7, t8, t9, t10]
            refine loop_nat c.mono (fun k T H' => ∃ j : Nat, j ≤ l3.length ∧ k = l3.length - j ∧ T 0 = .int .i64 n ∧ T 1 = .int .i64 me ∧ T 2 = v ∧ T 7 = .pointer (some ⟨p, 0, none⟩) ∧ T 9 = .int .i64 i ∧ T 10 = u3 ∧ T 14 = .int .i64 j ∧ H3.next ≤ H'.next ∧ InI p H R3 l3 As3 Bx3 D3 u3 j (T 8) H') l3.length ?_ ?_
            · refine ⟨0, by omega, rfl, ?_⟩
              simp -implicitDefEqProofs [J0,J1,J2,J3,J4,J5,J6,J7,J8,J9,Ja,Jb,Jc,Jd,Je,Jf,Jg,Jh,Ji,Jj,Jk,Jl,Jm,Jn,Jo,Jp,Jq,Jr,Js,Jt,Ju,Jv,Jw,Jx,Jy,Jz,JA,JB,JC,JD,JE,JF,JG,JH,JI,JJ,JK,JL,JM,JN,JO,JP,JQ,JR,JS,stillI,IOp.kind,JT,JU,JV,JW,JX,JY,JZ,Y0,Y1,Y2,Y3,Y4,Y5,Y6,Y7,Y8,Y9,Ya,Yb,Yc,Yd,Ye,Yf,Yg,Yh,Yi,Yj,Yk,Yl,Ym,Yn,Yo,Yp,Yq,ial,Yr,Ys,Yt,Yu,Yv,Yw,Yx,Yy,ires,iresL,ires1,Yz,YA,YB,YC,YD,YE,bin2,YF,YG,YH,YI,YJ,YK,YL,YM,YN,YO,YP,YQ,YR,YS,YT,YU,un1,shOk,eqL,eq1,fillL,putAt,IHeap.load1,IHeap.loadL,IHeap.storeL,YV,YW,YX,YY,YZ,B0,B1,B2,B3,B4,B5,B6,B7,B8,B9,Ba,Bb,Bc,Bd,Be,Bf,Bg,Bh,Bi,Bj,Bk,Bl,Bm,Bn,Bo,Bp, t0, t1, t2, t7, t8, t9, t10]
              refine ⟨o3, le3, r3, nt3, ?_, fun b hb => ⟨(O3 b hb).1, ?_, (O3 b hb).2⟩⟩
              · rw [List.take_zero, asks_nil, List.append_nil]; exact g3
              · rw [hD3]; exact fun hh => hh.2.2 hb
            · rintro k T H4 ⟨j, hjl, rfl, t0, t1, t2, t7, t9, t10, t14, n34, inn⟩
              obtain ⟨w, t8⟩ : ∃ w, T 8 = w := ⟨_, rfl⟩
              rw [t8] at inn
              obtain ⟨o4, le4, r4, nt4, g4, O4⟩ := inn
              by_cases hj : j < l3.length
              · have hj' : (j : Int) < (l3.length : Int) := by omega
                have wj : IntKind.i64.wrap ((j : Int) + 1) = (j : Int) + 1 := wrap64 (by omega) (by omega)
                obtain ⟨y, hy⟩ : ∃ y, l3[j]? = some y := ⟨l3[j], List.getElem?_eq_getElem hj⟩
                obtain ⟨f1, f2, f3, f4, f5, f6⟩ := hok3 y (List.mem_of_getElem? hy)
                rw [m3] at f1
                rw [n3] at f3
                obtain ⟨b4, q4, cap4, cs4, ro4, w4, ea, hb4, hg4, hrow4, hbd4, sw4, hD4⟩ := nt4.at hy
                simp only [rowN] at hrow4
                rw [f1] at hrow4
                obtain ⟨wa, wc, hwe⟩ := sw4.2.len
                rw [List.length_map] at hwe
                have o1' : one1 w4 = true := by rw [hwe]; rfl
                obtain ⟨HA, hHA⟩ : ∃ X : IHeap, X = (H4.alloc (.cells [.int .i64 0, .int .i64 0, .int .i64 0, .int .i64 0, .int .i64 0, .int .i64 0, .slice none 0 0] false)).set H4.next
                  (.cells [.int .i64 y.kind, .int .i64 me, .int .i64 y.to, .int .i64 y.slot, .int .i64 y.ba, .int .i64 y.bn, w4] false) := ⟨_, rfl⟩
                have kA : H4.le HA := by rw [hHA]; exact (H4.le_alloc _).set (Nat.le_refl _) _
                have nA : HA.next = H4.next + 1 := by rw [hHA]; rfl
                have gA : HA.get H4.next = some (.cells [.int .i64 y.kind, .int .i64 me, .int .i64 y.to, .int .i64 y.slot, .int .i64 y.ba, .int .i64 y.bn, w4] false) := by rw [hHA, YW, if_pos rfl]
                have h1' : ¬ y.to < 0 := by omega
                have h2' : ¬ n ≤ y.to := by omega
                have h3' : ¬ y.kind < 1 := by omega
                have h4' : ¬ 6 < y.kind := by omega
                by_cases hak : y.kind = 3 ∧ y.to = 0
                · obtain ⟨hk3, ht0⟩ := hak
                  obtain ⟨vv, hvv⟩ : ∃ vv, y.votes = [vv] := List.length_eq_one_iff.1 (f6 hk3)
                  have hav : askV y = some vv := by unfold askV; rw [if_pos ⟨hk3, ht0⟩, hvv]; rfl
                  have hno2 : asks (l3.take (j + 1)) = asks (l3.take j) ++ [vv] := by rw [asks_take hy, hav]; rfl
                  obtain ⟨m, hm⟩ := asks_split hy hav
                  have hnew := fun x hx => new_key hm j3.2 (w := x) hx
                  rw [hvv] at sw4 hwe
                  simp only [List.length_singleton] at hwe
                  obtain ⟨b5, q5, cap5, cs5, ro5, eb, hb5, hg5, _, hrow5, hbd5⟩ := sw4.1.sl.at (i := 0) (r := rowV vv) rfl
                  simp only [Nat.zero_mul, Nat.add_zero, List.length_map, List.length_singleton] at hrow5 hbd5 eb
                  have s0 := row_at hrow5 0 (by omega)
                  have s1 := rows_at hrow5 1 2 (by omega)
                  simp only [rowV, Nat.add_zero, List.getElem?_cons_zero, List.drop_succ_cons, List.drop_zero, List.take_succ_cons, List.take_zero] at s0 s1 hrow5
                  have hg5A := (kA.get b5 hb5).trans hg5
                  have s1' : q5 + 1 + 2 ≤ cs5.length := by omega
                  rw [hk3, ht0, eb] at gA hHA hrow4
                  rw [eb] at o1'
                  obtain ⟨hlo, hla⟩ : ∃ L, L = As3 ++ asks (l3.take j) := ⟨_, rfl⟩
                  have hll : hlo.length ≤ 7168 * i + 7168 := by rw [hla, List.length_append]; have := hal j; omega
                  rw [← hla] at g4
                  have gG := (g4.grow (N := 0) fun _ _ => Nat.zero_le _)
                  obtain ⟨xa, xc, hxe⟩ := gG.len
                  rw [List.length_map] at hxe
                  have h2z : ¬ n ≤ 0 := by omega
                  simp -implicitDefEqProofs [J0,J1,J2,J3,J4,J5,J6,J7,J8,J9,Ja,Jb,Jc,Jd,Je,Jf,Jg,Jh,Ji,Jj,Jk,Jl,Jm,Jn,Jo,Jp,Jq,Jr,Js,Jt,Ju,Jv,Jw,Jx,Jy,Jz,JA,JB,JC,JD,JE,JF,JG,JH,JI,JJ,JK,JL,JM,JN,JO,JP,JQ,JR,JS,stillI,IOp.kind,JT,JU,JV,JW,JX,JY,JZ,Y0,Y1,Y2,Y3,Y4,Y5,Y6,Y7,Y8,Y9,Ya,Yb,Yc,Yd,Ye,Yf,Yg,Yh,Yi,Yj,Yk,Yl,Ym,Yn,Yo,Yp,Yq,ial,Yr,Ys,Yt,Yu,Yv,Yw,Yx,Yy,ires,iresL,ires1,Yz,YA,YB,YC,YD,YE,bin2,YF,YG,YH,YI,YJ,YK,YL,YM,YN,YO,YP,YQ,YR,YS,YT,YU,un1,shOk,eqL,eq1,fillL,putAt,IHeap.load1,IHeap.loadL,IHeap.storeL,YV,YW,YX,YY,YZ,B0,B1,B2,B3,B4,B5,B6,B7,B8,B9,Ba,Bb,Bc,Bd,Be,Bf,Bg,Bh,Bi,Bj,Bk,Bl,Bm,Bn,Bo,Bp, t0, t1, t2, t7, t8, t9, t10, t14, ea, hj, hj', hg4, hrow4, hbd4, o1', ← hHA, gA, h2z]
                  refine loop_nat c.mono (fun k T HX => ∃ z : Nat, z ≤ hlo.length ∧ k = hlo.length - z ∧ T 0 = .int .i64 n ∧ T 1 = .int .i64 me ∧ T 2 = v ∧ T 7 = .pointer (some ⟨p, 0, none⟩) ∧ T 8 = w ∧ T 9 = .int .i64 i ∧ T 10 = u3 ∧ T 14 = .int .i64 j ∧ T 15 = .pointer (some ⟨H4.next, 0, none⟩) ∧ T 16 = .int .i64 z ∧ HA = HX) hlo.length ?_ ?_
                  · refine ⟨0, by omega, rfl, ?_⟩
                    simp -implicitDefEqProofs [J0,J1,J2,J3,J4,J5,J6,J7,J8,J9,Ja,Jb,Jc,Jd,Je,Jf,Jg,Jh,Ji,Jj,Jk,Jl,Jm,Jn,Jo,Jp,Jq,Jr,Js,Jt,Ju,Jv,Jw,Jx,Jy,Jz,JA,JB,JC,JD,JE,JF,JG,JH,JI,JJ,JK,JL,JM,JN,JO,JP,JQ,JR,JS,stillI,IOp.kind,JT,JU,JV,JW,JX,JY,JZ,Y0,Y1,Y2,Y3,Y4,Y5,Y6,Y7,Y8,Y9,Ya,Yb,Yc,Yd,Ye,Yf,Yg,Yh,Yi,Yj,Yk,Yl,Ym,Yn,Yo,Yp,Yq,ial,Yr,Ys,Yt,Yu,Yv,Yw,Yx,Yy,ires,iresL,ires1,Yz,YA,YB,YC,YD,YE,bin2,YF,YG,YH,YI,YJ,YK,YL,YM,YN,YO,YP,YQ,YR,YS,YT,YU,un1,shOk,eqL,eq1,fillL,putAt,IHeap.load1,IHeap.loadL,IHeap.storeL,YV,YW,YX,YY,YZ,B0,B1,B2,B3,B4,B5,B6,B7,B8,B9,Ba,Bb,Bc,Bd,Be,Bf,Bg,Bh,Bi,Bj,Bk,Bl,Bm,Bn,Bo,Bp, t0, t1, t2, t7, t8, t9, t10, t14]
                  · rintro k T HX ⟨z, hz, rfl, t0, t1, t2, t7, t8, t9, t10, t14, t15, t16, rfl⟩
                    by_cases hzl : z < hlo.length
                    · have hzl' : (z : Int) < (hlo.length : Int) := by omega
                      have wz : IntKind.i64.wrap ((z : Int) + 1) = (z : Int) + 1 := wrap64 (by omega) (by omega)
                      obtain ⟨x, hx⟩ : ∃ x, hlo[z]? = some x := ⟨hlo[z], List.getElem?_eq_getElem hzl⟩
                      have gGA := (gG.le kA).slr
                      obtain ⟨b6, q6, cap6, cs6, ro6, ew, hb6, hg6, _, hrow6, hbd6⟩ := gGA.at (i := z) (r := rowV x) (by rw [List.getElem?_map, hx]; rfl)
                      rw [List.length_map] at ew
                      have u0 := row_at hrow6 0 (by omega)
                      have u1 := rows_at hrow6 1 2 (by omega)
                      simp only [rowV, Nat.add_zero, List.getElem?_cons_zero, List.drop_succ_cons, List.drop_zero, List.take_succ_cons, List.take_zero] at u0 u1
                      have u1' : q6 + z * 4 + 1 + 2 ≤ cs6.length := by omega
                      have hne := hnew x (by rw [← hla]; exact List.mem_of_getElem? hx)
                      by_cases es : x.slot = vv.slot
                      · simp -implicitDefEqProofs [J0,J1,J2,J3,J4,J5,J6,J7,J8,J9,Ja,Jb,Jc,Jd,Je,Jf,Jg,Jh,Ji,Jj,Jk,Jl,Jm,Jn,Jo,Jp,Jq,Jr,Js,Jt,Ju,Jv,Jw,Jx,Jy,Jz,JA,JB,JC,JD,JE,JF,JG,JH,JI,JJ,JK,JL,JM,JN,JO,JP,JQ,JR,JS,stillI,IOp.kind,JT,JU,JV,JW,JX,JY,JZ,Y0,Y1,Y2,Y3,Y4,Y5,Y6,Y7,Y8,Y9,Ya,Yb,Yc,Yd,Ye,Yf,Yg,Yh,Yi,Yj,Yk,Yl,Ym,Yn,Yo,Yp,Yq,ial,Yr,Ys,Yt,Yu,Yv,Yw,Yx,Yy,ires,iresL,ires1,Yz,YA,YB,YC,YD,YE,bin2,YF,YG,YH,YI,YJ,YK,YL,YM,YN,YO,YP,YQ,YR,YS,YT,YU,un1,shOk,eqL,eq1,fillL,putAt,IHeap.load1,IHeap.loadL,IHeap.storeL,YV,YW,YX,YY,YZ,B0,B1,B2,B3,B4,B5,B6,B7,B8,B9,Ba,Bb,Bc,Bd,Be,Bf,Bg,Bh,Bi,Bj,Bk,Bl,Bm,Bn,Bo,Bp, t0, t1, t2, t7, t8, t9, t10, t14, t15, t16, ew, hzl, hzl', hg6, u0, u1, u1', hbd6, gA, eb, hg5A, s0, s1, s1', es, wz]
                        by_cases eA : x.a = vv.a
                        · have eN : ¬ x.n = vv.n := fun eN => hne (by unfold keyV; rw [es, eA, eN])
                          simp -implicitDefEqProofs [J0,J1,J2,J3,J4,J5,J6,J7,J8,J9,Ja,Jb,Jc,Jd,Je,Jf,Jg,Jh,Ji,Jj,Jk,Jl,Jm,Jn,Jo,Jp,Jq,Jr,Js,Jt,Ju,Jv,Jw,Jx,Jy,Jz,JA,JB,JC,JD,JE,JF,JG,JH,JI,JJ,JK,JL,JM,JN,JO,JP,JQ,JR,JS,stillI,IOp.kind,JT,JU,JV,JW,JX,JY,JZ,Y0,Y1,Y2,Y3,Y4,Y5,Y6,Y7,Y8,Y9,Ya,Yb,Yc,Yd,Ye,Yf,Yg,Yh,Yi,Yj,Yk,Yl,Ym,Yn,Yo,Yp,Yq,ial,Yr,Ys,Yt,Yu,Yv,Yw,Yx,Yy,ires,iresL,ires1,Yz,YA,YB,YC,YD,YE,bin2,YF,YG,YH,YI,YJ,YK,YL,YM,YN,YO,YP,YQ,YR,YS,YT,YU,un1,shOk,eqL,eq1,fillL,putAt,IHeap.load1,IHeap.loadL,IHeap.storeL,YV,YW,YX,YY,YZ,B0,B1,B2,B3,B4,B5,B6,B7,B8,B9,Ba,Bb,Bc,Bd,Be,Bf,Bg,Bh,Bi,Bj,Bk,Bl,Bm,Bn,Bo,Bp, t0, t1, t2, t7, t8, t9, t10, t14, t15, t16, eA, eN, wz]
                          exact ⟨hlo.length - (z + 1), by omega, z + 1, by omega, rfl, ew, rfl⟩
                        · simp -implicitDefEqProofs [J0,J1,J2,J3,J4,J5,J6,J7,J8,J9,Ja,Jb,Jc,Jd,Je,Jf,Jg,Jh,Ji,Jj,Jk,Jl,Jm,Jn,Jo,Jp,Jq,Jr,Js,Jt,Ju,Jv,Jw,Jx,Jy,Jz,JA,JB,JC,JD,JE,JF,JG,JH,JI,JJ,JK,JL,JM,JN,JO,JP,JQ,JR,JS,stillI,IOp.kind,JT,JU,JV,JW,JX,JY,JZ,Y0,Y1,Y2,Y3,Y4,Y5,Y6,Y7,Y8,Y9,Ya,Yb,Yc,Yd,Ye,Yf,Yg,Yh,Yi,Yj,Yk,Yl,Ym,Yn,Yo,Yp,Yq,ial,Yr,Ys,Yt,Yu,Yv,Yw,Yx,Yy,ires,iresL,ires1,Yz,YA,YB,YC,YD,YE,bin2,YF,YG,YH,YI,YJ,YK,YL,YM,YN,YO,YP,YQ,YR,YS,YT,YU,un1,shOk,eqL,eq1,fillL,putAt,IHeap.load1,IHeap.loadL,IHeap.storeL,YV,YW,YX,YY,YZ,B0,B1,B2,B3,B4,B5,B6,B7,B8,B9,Ba,Bb,Bc,Bd,Be,Bf,Bg,Bh,Bi,Bj,Bk,Bl,Bm,Bn,Bo,Bp, t0, t1, t2, t7, t8, t9, t10, t14, t15, t16, eA, wz]
                          exact ⟨hlo.length - (z + 1), by omega, z + 1, by omega, rfl, ew, rfl⟩
                      · simp -implicitDefEqProofs [J0,J1,J2,J3,J4,J5,J6,J7,J8,J9,Ja,Jb,Jc,Jd,Je,Jf,Jg,Jh,Ji,Jj,Jk,Jl,Jm,Jn,Jo,Jp,Jq,Jr,Js,Jt,Ju,Jv,Jw,Jx,Jy,Jz,JA,JB,JC,JD,JE,JF,JG,JH,JI,JJ,JK,JL,JM,JN,JO,JP,JQ,JR,JS,stillI,IOp.kind,JT,JU,JV,JW,JX,JY,JZ,Y0,Y1,Y2,Y3,Y4,Y5,Y6,Y7,Y8,Y9,Ya,Yb,Yc,Yd,Ye,Yf,Yg,Yh,Yi,Yj,Yk,Yl,Ym,Yn,Yo,Yp,Yq,ial,Yr,Ys,Yt,Yu,Yv,Yw,Yx,Yy,ires,iresL,ires1,Yz,YA,YB,YC,YD,YE,bin2,YF,YG,YH,YI,YJ,YK,YL,YM,YN,YO,YP,YQ,YR,YS,YT,YU,un1,shOk,eqL,eq1,fillL,putAt,IHeap.load1,IHeap.loadL,IHeap.storeL,YV,YW,YX,YY,YZ,B0,B1,B2,B3,B4,B5,B6,B7,B8,B9,Ba,Bb,Bc,Bd,Be,Bf,Bg,Bh,Bi,Bj,Bk,Bl,Bm,Bn,Bo,Bp, t0, t1, t2, t7, t8, t9, t10, t14, t15, t16, ew, hzl, hzl', hg6, u0, u1, u1', hbd6, gA, eb, hg5A, s0, s1, s1', es, wz]
                        exact ⟨hlo.length - (z + 1), by omega, z + 1, by omega, rfl, rfl⟩
                    · have hzl' : ¬ (z : Int) < (hlo.length : Int) := by omega
                      obtain ⟨HB, hHB⟩ : ∃ X : IHeap, X = HA.alloc (.cells (rowV vv) false) := ⟨_, rfl⟩
                      have kB : HA.le HB := by rw [hHB]; exact HA.le_alloc _
                      have nB : HB.next = HA.next + 1 := by rw [hHB]; rfl
                      have gB : HB.get HA.next = some (.cells (rowV vv) false) := by rw [hHB, YV, if_pos rfl]
                      have hHB' : HA.alloc (.cells [.int .i64 vv.slot, .int .i64 vv.a, .int .i64 vv.n, .string vv.val] false) = HB := by rw [hHB]; rfl
                      have sB := (one_vote gB (by omega)).2
                      have fB := sB.first (by omega)
                      simp only [List.map_cons, List.map_nil, List.length_singleton, List.flatten_singleton, rowV] at fB
                      have kAB := kA.trans kB
                      obtain ⟨w', HC, o', p1, p2, p3, p4⟩ := (g4.fr (kAB.fr fun _ => False) fun _ _ h => h).append (bytes := 40) (new := [rowV vv]) (by omega) (by omega) (by rw [List.length_map, List.length_singleton]; omega) (by rw [List.length_map, List.length_singleton]; omega) (by simp [rowV]) rfl
                      simp only [List.length_singleton, List.flatten_singleton, rowV] at p1
                      have nC := p3.next
                      have hob : ∀ b, o4 = some b → b < H4.next := fun b hb => by subst hb; exact g4.1
                      rcases p4 with ⟨_, p4⟩ | ⟨q', p4, p5, _⟩
                      · cases p4
                      · have fin : InI p H R3 l3 As3 Bx3 D3 u3 (j + 1) w' HC := by
                          refine ⟨o', ⟨by have := le4.next; omega, fun b hb => ?_⟩, (r4.le kAB).fr p3 fun b hb e => (O4 b e).1 hb, (nt4.le kAB).fr p3 fun b hb e => (O4 b e).2.1 hb, ?_, fun b hb => ?_⟩
                          · exact (p3.get b (by have := le4.next; omega) fun e => by have := (O4 b e).2.2; omega).trans ((le4.trans kAB).get b hb)
                          · rw [hno2, ← List.append_assoc, ← hla, List.map_append]; exact p2
                          · rw [p4] at hb
                            injection hb with hb
                            subst hb
                            exact ⟨fun hh => by have := r4.lt _ hh; omega, fun hh => by have := hDlt _ hh; omega, by have := le4.next; omega⟩
                        rw [ea] at fin
                        simp -implicitDefEqProofs [J0,J1,J2,J3,J4,J5,J6,J7,J8,J9,Ja,Jb,Jc,Jd,Je,Jf,Jg,Jh,Ji,Jj,Jk,Jl,Jm,Jn,Jo,Jp,Jq,Jr,Js,Jt,Ju,Jv,Jw,Jx,Jy,Jz,JA,JB,JC,JD,JE,JF,JG,JH,JI,JJ,JK,JL,JM,JN,JO,JP,JQ,JR,JS,stillI,IOp.kind,JT,JU,JV,JW,JX,JY,JZ,Y0,Y1,Y2,Y3,Y4,Y5,Y6,Y7,Y8,Y9,Ya,Yb,Yc,Yd,Ye,Yf,Yg,Yh,Yi,Yj,Yk,Yl,Ym,Yn,Yo,Yp,Yq,ial,Yr,Ys,Yt,Yu,Yv,Yw,Yx,Yy,ires,iresL,ires1,Yz,YA,YB,YC,YD,YE,bin2,YF,YG,YH,YI,YJ,YK,YL,YM,YN,YO,YP,YQ,YR,YS,YT,YU,un1,shOk,eqL,eq1,fillL,putAt,IHeap.load1,IHeap.loadL,IHeap.storeL,YV,YW,YX,YY,YZ,B0,B1,B2,B3,B4,B5,B6,B7,B8,B9,Ba,Bb,Bc,Bd,Be,Bf,Bg,Bh,Bi,Bj,Bk,Bl,Bm,Bn,Bo,Bp, t0, t1, t2, t7, t8, t9, t10, t14, t15, t16, hxe, hzl, hzl', gA, eb, hg5A, hrow5, hbd5, hHB', lenOfI, fB, wj]
                        rw [← hxe]
                        simp -implicitDefEqProofs [J0,J1,J2,J3,J4,J5,J6,J7,J8,J9,Ja,Jb,Jc,Jd,Je,Jf,Jg,Jh,Ji,Jj,Jk,Jl,Jm,Jn,Jo,Jp,Jq,Jr,Js,Jt,Ju,Jv,Jw,Jx,Jy,Jz,JA,JB,JC,JD,JE,JF,JG,JH,JI,JJ,JK,JL,JM,JN,JO,JP,JQ,JR,JS,stillI,IOp.kind,JT,JU,JV,JW,JX,JY,JZ,Y0,Y1,Y2,Y3,Y4,Y5,Y6,Y7,Y8,Y9,Ya,Yb,Yc,Yd,Ye,Yf,Yg,Yh,Yi,Yj,Yk,Yl,Ym,Yn,Yo,Yp,Yq,ial,Yr,Ys,Yt,Yu,Yv,Yw,Yx,Yy,ires,iresL,ires1,Yz,YA,YB,YC,YD,YE,bin2,YF,YG,YH,YI,YJ,YK,YL,YM,YN,YO,YP,YQ,YR,YS,YT,YU,un1,shOk,eqL,eq1,fillL,putAt,IHeap.load1,IHeap.loadL,IHeap.storeL,YV,YW,YX,YY,YZ,B0,B1,B2,B3,B4,B5,B6,B7,B8,B9,Ba,Bb,Bc,Bd,Be,Bf,Bg,Bh,Bi,Bj,Bk,Bl,Bm,Bn,Bo,Bp, t0, t1, t2, t7, t9, t10, t14, t15, t16, p1, wj]
                        exact ⟨l3.length - (j + 1), by omega, j + 1, by omega, rfl, ea, rfl, by omega, fin⟩
                · have hno : askV y = none := by unfold askV; rw [if_neg hak]
                  have hno2 : asks (l3.take (j + 1)) = asks (l3.take j) := by rw [asks_take hy, hno]; simp
                  have fin : InI p H R3 l3 As3 Bx3 D3 u3 (j + 1) w HA := ⟨o4, le4.trans kA, r4.le kA, nt4.le kA, by rw [hno2]; exact g4.fr (kA.fr fun _ => False) fun _ _ h => h, O4⟩
                  rw [ea] at fin
                  by_cases hk3 : y.kind = 3
                  · have ht0 : ¬ y.to = 0 := fun hh => hak ⟨hk3, hh⟩
                    rw [hk3] at gA hHA hrow4
                    simp -implicitDefEqProofs [J0,J1,J2,J3,J4,J5,J6,J7,J8,J9,Ja,Jb,Jc,Jd,Je,Jf,Jg,Jh,Ji,Jj,Jk,Jl,Jm,Jn,Jo,Jp,Jq,Jr,Js,Jt,Ju,Jv,Jw,Jx,Jy,Jz,JA,JB,JC,JD,JE,JF,JG,JH,JI,JJ,JK,JL,JM,JN,JO,JP,JQ,JR,JS,stillI,IOp.kind,JT,JU,JV,JW,JX,JY,JZ,Y0,Y1,Y2,Y3,Y4,Y5,Y6,Y7,Y8,Y9,Ya,Yb,Yc,Yd,Ye,Yf,Yg,Yh,Yi,Yj,Yk,Yl,Ym,Yn,Yo,Yp,Yq,ial,Yr,Ys,Yt,Yu,Yv,Yw,Yx,Yy,ires,iresL,ires1,Yz,YA,YB,YC,YD,YE,bin2,YF,YG,YH,YI,YJ,YK,YL,YM,YN,YO,YP,YQ,YR,YS,YT,YU,un1,shOk,eqL,eq1,fillL,putAt,IHeap.load1,IHeap.loadL,IHeap.storeL,YV,YW,YX,YY,YZ,B0,B1,B2,B3,B4,B5,B6,B7,B8,B9,Ba,Bb,Bc,Bd,Be,Bf,Bg,Bh,Bi,Bj,Bk,Bl,Bm,Bn,Bo,Bp, t0, t1, t2, t7, t8, t9, t10, t14, ea, hj, hj', hg4, hrow4, hbd4, o1', hk3, ← hHA, gA, h1', h2', ht0, wj]
                    exact ⟨l3.length - (j + 1), by omega, j + 1, by omega, rfl, rfl, by omega, fin⟩
                  · simp -implicitDefEqProofs [J0,J1,J2,J3,J4,J5,J6,J7,J8,J9,Ja,Jb,Jc,Jd,Je,Jf,Jg,Jh,Ji,Jj,Jk,Jl,Jm,Jn,Jo,Jp,Jq,Jr,Js,Jt,Ju,Jv,Jw,Jx,Jy,Jz,JA,JB,JC,JD,JE,JF,JG,JH,JI,JJ,JK,JL,JM,JN,JO,JP,JQ,JR,JS,stillI,IOp.kind,JT,JU,JV,JW,JX,JY,JZ,Y0,Y1,Y2,Y3,Y4,Y5,Y6,Y7,Y8,Y9,Ya,Yb,Yc,Yd,Ye,Yf,Yg,Yh,Yi,Yj,Yk,Yl,Ym,Yn,Yo,Yp,Yq,ial,Yr,Ys,Yt,Yu,Yv,Yw,Yx,Yy,ires,iresL,ires1,Yz,YA,YB,YC,YD,YE,bin2,YF,YG,YH,YI,YJ,YK,YL,YM,YN,YO,YP,YQ,YR,YS,YT,YU,un1,shOk,eqL,eq1,fillL,putAt,IHeap.load1,IHeap.loadL,IHeap.storeL,YV,YW,YX,YY,YZ,B0,B1,B2,B3,B4,B5,B6,B7,B8,B9,Ba,Bb,Bc,Bd,Be,Bf,Bg,Bh,Bi,Bj,Bk,Bl,Bm,Bn,Bo,Bp, t0, t1, t2, t7, t8, t9, t10, t14, ea, hj, hj', hg4, hrow4, hbd4, o1', ← hHA, gA, h1', h2', h3', h4', hk3, wj]
                    exact ⟨l3.length - (j + 1), by omega, j + 1, by omega, rfl, rfl, by omega, fin⟩
              · have hj' : ¬ (j : Int) < (l3.length : Int) := by omega
                have hje : j = l3.length := by omega
                subst hje
                simp -implicitDefEqProofs [J0,J1,J2,J3,J4,J5,J6,J7,J8,J9,Ja,Jb,Jc,Jd,Je,Jf,Jg,Jh,Ji,Jj,Jk,Jl,Jm,Jn,Jo,Jp,Jq,Jr,Js,Jt,Ju,Jv,Jw,Jx,Jy,Jz,JA,JB,JC,JD,JE,JF,JG,JH,JI,JJ,JK,JL,JM,JN,JO,JP,JQ,JR,JS,stillI,IOp.kind,JT,JU,JV,JW,JX,JY,JZ,Y0,Y1,Y2,Y3,Y4,Y5,Y6,Y7,Y8,Y9,Ya,Yb,Yc,Yd,Ye,Yf,Yg,Yh,Yi,Yj,Yk,Yl,Ym,Yn,Yo,Yp,Yq,ial,Yr,Ys,Yt,Yu,Yv,Yw,Yx,Yy,ires,iresL,ires1,Yz,YA,YB,YC,YD,YE,bin2,YF,YG,YH,YI,YJ,YK,YL,YM,YN,YO,YP,YQ,YR,YS,YT,YU,un1,shOk,eqL,eq1,fillL,putAt,IHeap.load1,IHeap.loadL,IHeap.storeL,YV,YW,YX,YY,YZ,B0,B1,B2,B3,B4,B5,B6,B7,B8,B9,Ba,Bb,Bc,Bd,Be,Bf,Bg,Bh,Bi,Bj,Bk,Bl,Bm,Bn,Bo,Bp, t0, t1, t2, t7, t8, t9, t10, t14, hoe, hj, hj', wi]
                rw [List.take_length] at g4
                refine ⟨l.length - (i + 1), by omega, i + 1, by omega, rfl, e, rfl, R3, As3 ++ asks l3, Bx3, o4, le4, B3b, r4, ok3, n3, m3, g4, fun b hb => ⟨(O4 b hb).1, (O4 b hb).2.2⟩, j3, ?_⟩
                have := hal l3.length
                rw [List.take_length] at this
                rw [List.length_append]
                omega
          · have hlt := hr.lt
            have hrV := hr.le kV
            by_cases k0 : d.kind = 0
            · have hdE : R.deed d = R.lead := by unfold Rp.deed; rw [if_pos k0]
              rw [k0] at gV
              simp -implicitDefEqProofs [J0,J1,J2,J3,J4,J5,J6,J7,J8,J9,Ja,Jb,Jc,Jd,Je,Jf,Jg,Jh,Ji,Jj,Jk,Jl,Jm,Jn,Jo,Jp,Jq,Jr,Js,Jt,Ju,Jv,Jw,Jx,Jy,Jz,JA,JB,JC,JD,JE,JF,JG,JH,JI,JJ,JK,JL,JM,JN,JO,JP,JQ,JR,JS,stillI,IOp.kind,JT,JU,JV,JW,JX,JY,JZ,Y0,Y1,Y2,Y3,Y4,Y5,Y6,Y7,Y8,Y9,Ya,Yb,Yc,Yd,Ye,Yf,Yg,Yh,Yi,Yj,Yk,Yl,Ym,Yn,Yo,Yp,Yq,ial,Yr,Ys,Yt,Yu,Yv,Yw,Yx,Yy,ires,iresL,ires1,Yz,YA,YB,YC,YD,YE,bin2,YF,YG,YH,YI,YJ,YK,YL,YM,YN,YO,YP,YQ,YR,YS,YT,YU,un1,shOk,eqL,eq1,fillL,putAt,IHeap.load1,IHeap.loadL,IHeap.storeL,YV,YW,YX,YY,YZ,B0,B1,B2,B3,B4,B5,B6,B7,B8,B9,Ba,Bb,Bc,Bd,Be,Bf,Bg,Bh,Bi,Bj,Bk,Bl,Bm,Bn,Bo,Bp, t0, t1, t2, t7, t8, t9, k0]
              refine call_of (RLead_ok c hc hrV ho fun u3 H3 sd => ?_)
              simp -implicitDefEqProofs [J0,J1,J2,J3,J4,J5,J6,J7,J8,J9,Ja,Jb,Jc,Jd,Je,Jf,Jg,Jh,Ji,Jj,Jk,Jl,Jm,Jn,Jo,Jp,Jq,Jr,Js,Jt,Ju,Jv,Jw,Jx,Jy,Jz,JA,JB,JC,JD,JE,JF,JG,JH,JI,JJ,JK,JL,JM,JN,JO,JP,JQ,JR,JS,stillI,IOp.kind,JT,JU,JV,JW,JX,JY,JZ,Y0,Y1,Y2,Y3,Y4,Y5,Y6,Y7,Y8,Y9,Ya,Yb,Yc,Yd,Ye,Yf,Yg,Yh,Yi,Yj,Yk,Yl,Ym,Yn,Yo,Yp,Yq,ial,Yr,Ys,Yt,Yu,Yv,Yw,Yx,Yy,ires,iresL,ires1,Yz,YA,YB,YC,YD,YE,bin2,YF,YG,YH,YI,YJ,YK,YL,YM,YN,YO,YP,YQ,YR,YS,YT,YU,un1,shOk,eqL,eq1,fillL,putAt,IHeap.load1,IHeap.loadL,IHeap.storeL,YV,YW,YX,YY,YZ,B0,B1,B2,B3,B4,B5,B6,B7,B8,B9,Ba,Bb,Bc,Bd,Be,Bf,Bg,Bh,Bi,Bj,Bk,Bl,Bm,Bn,Bo,Bp, t0, t1, t2, t7, t8, t9]
              exact outI hle hB hr ho hn hm hw hO hj hN (by rw [hdE]; exact sd.of kV hlt)
            · by_cases k1' : d.kind = 1
              · have hdE : R.deed d = ((R.propose d.text).1, (R.propose d.text).2.1) := by unfold Rp.deed; rw [if_neg k0, if_pos k1']
                simp -implicitDefEqProofs [J0,J1,J2,J3,J4,J5,J6,J7,J8,J9,Ja,Jb,Jc,Jd,Je,Jf,Jg,Jh,Ji,Jj,Jk,Jl,Jm,Jn,Jo,Jp,Jq,Jr,Js,Jt,Ju,Jv,Jw,Jx,Jy,Jz,JA,JB,JC,JD,JE,JF,JG,JH,JI,JJ,JK,JL,JM,JN,JO,JP,JQ,JR,JS,stillI,IOp.kind,JT,JU,JV,JW,JX,JY,JZ,Y0,Y1,Y2,Y3,Y4,Y5,Y6,Y7,Y8,Y9,Ya,Yb,Yc,Yd,Ye,Yf,Yg,Yh,Yi,Yj,Yk,Yl,Ym,Yn,Yo,Yp,Yq,ial,Yr,Ys,Yt,Yu,Yv,Yw,Yx,Yy,ires,iresL,ires1,Yz,YA,YB,YC,YD,YE,bin2,YF,YG,YH,YI,YJ,YK,YL,YM,YN,YO,YP,YQ,YR,YS,YT,YU,un1,shOk,eqL,eq1,fillL,putAt,IHeap.load1,IHeap.loadL,IHeap.storeL,YV,YW,YX,YY,YZ,B0,B1,B2,B3,B4,B5,B6,B7,B8,B9,Ba,Bb,Bc,Bd,Be,Bf,Bg,Bh,Bi,Bj,Bk,Bl,Bm,Bn,Bo,Bp, t0, t1, t2, t7, t8, t9, k0, k1', gV]
                refine call_of (RPropose_ok c hc hrV ho fun u3 H3 f3 i3 nt => ?_)
                simp -implicitDefEqProofs [J0,J1,J2,J3,J4,J5,J6,J7,J8,J9,Ja,Jb,Jc,Jd,Je,Jf,Jg,Jh,Ji,Jj,Jk,Jl,Jm,Jn,Jo,Jp,Jq,Jr,Js,Jt,Ju,Jv,Jw,Jx,Jy,Jz,JA,JB,JC,JD,JE,JF,JG,JH,JI,JJ,JK,JL,JM,JN,JO,JP,JQ,JR,JS,stillI,IOp.kind,JT,JU,JV,JW,JX,JY,JZ,Y0,Y1,Y2,Y3,Y4,Y5,Y6,Y7,Y8,Y9,Ya,Yb,Yc,Yd,Ye,Yf,Yg,Yh,Yi,Yj,Yk,Yl,Ym,Yn,Yo,Yp,Yq,ial,Yr,Ys,Yt,Yu,Yv,Yw,Yx,Yy,ires,iresL,ires1,Yz,YA,YB,YC,YD,YE,bin2,YF,YG,YH,YI,YJ,YK,YL,YM,YN,YO,YP,YQ,YR,YS,YT,YU,un1,shOk,eqL,eq1,fillL,putAt,IHeap.load1,IHeap.loadL,IHeap.storeL,YV,YW,YX,YY,YZ,B0,B1,B2,B3,B4,B5,B6,B7,B8,B9,Ba,Bb,Bc,Bd,Be,Bf,Bg,Bh,Bi,Bj,Bk,Bl,Bm,Bn,Bo,Bp, t0, t1, t2, t7, t8, t9]
                have sd : Said Bx0 HV p (R.propose d.text).1 (R.propose d.text).2.1 u3 H3 := ⟨Bx0, f3, fun b hb => .inl hb, i3, nt.weak fun b hb => ⟨hb.1, hb.2, fun hh => by have := hlt b hh; omega⟩⟩
                exact outI hle hB hr ho hn hm hw hO hj hN (by rw [hdE]; exact sd.of kV hlt)
              · by_cases k2 : d.kind = 2
                · have hdE : R.deed d = R.take d.note := by unfold Rp.deed; rw [if_neg k0, if_neg k1', if_pos k2]
                  simp -implicitDefEqProofs [J0,J1,J2,J3,J4,J5,J6,J7,J8,J9,Ja,Jb,Jc,Jd,Je,Jf,Jg,Jh,Ji,Jj,Jk,Jl,Jm,Jn,Jo,Jp,Jq,Jr,Js,Jt,Ju,Jv,Jw,Jx,Jy,Jz,JA,JB,JC,JD,JE,JF,JG,JH,JI,JJ,JK,JL,JM,JN,JO,JP,JQ,JR,JS,stillI,IOp.kind,JT,JU,JV,JW,JX,JY,JZ,Y0,Y1,Y2,Y3,Y4,Y5,Y6,Y7,Y8,Y9,Ya,Yb,Yc,Yd,Ye,Yf,Yg,Yh,Yi,Yj,Yk,Yl,Ym,Yn,Yo,Yp,Yq,ial,Yr,Ys,Yt,Yu,Yv,Yw,Yx,Yy,ires,iresL,ires1,Yz,YA,YB,YC,YD,YE,bin2,YF,YG,YH,YI,YJ,YK,YL,YM,YN,YO,YP,YQ,YR,YS,YT,YU,un1,shOk,eqL,eq1,fillL,putAt,IHeap.load1,IHeap.loadL,IHeap.storeL,YV,YW,YX,YY,YZ,B0,B1,B2,B3,B4,B5,B6,B7,B8,B9,Ba,Bb,Bc,Bd,Be,Bf,Bg,Bh,Bi,Bj,Bk,Bl,Bm,Bn,Bo,Bp, t0, t1, t2, t7, t8, t9, k0, k1', k2, gV]
                  refine call_of (RTake_ok c hc (x := d.note) (u := u) (D := fun b => b < H'.next ∧ ¬ Bx0 b) hrV ho ?_ (fun b hb => hb.2) (by have := hvl d (List.mem_of_getElem? hd); omega) fun u3 H3 sd => ?_)
                  · have := hle.next
                    exact (hu.anyD.le (hle.trans kV)).weak fun b hb => ⟨by omega, fun hh => by have := hB b hh; omega⟩
                  · simp -implicitDefEqProofs [J0,J1,J2,J3,J4,J5,J6,J7,J8,J9,Ja,Jb,Jc,Jd,Je,Jf,Jg,Jh,Ji,Jj,Jk,Jl,Jm,Jn,Jo,Jp,Jq,Jr,Js,Jt,Ju,Jv,Jw,Jx,Jy,Jz,JA,JB,JC,JD,JE,JF,JG,JH,JI,JJ,JK,JL,JM,JN,JO,JP,JQ,JR,JS,stillI,IOp.kind,JT,JU,JV,JW,JX,JY,JZ,Y0,Y1,Y2,Y3,Y4,Y5,Y6,Y7,Y8,Y9,Ya,Yb,Yc,Yd,Ye,Yf,Yg,Yh,Yi,Yj,Yk,Yl,Ym,Yn,Yo,Yp,Yq,ial,Yr,Ys,Yt,Yu,Yv,Yw,Yx,Yy,ires,iresL,ires1,Yz,YA,YB,YC,YD,YE,bin2,YF,YG,YH,YI,YJ,YK,YL,YM,YN,YO,YP,YQ,YR,YS,YT,YU,un1,shOk,eqL,eq1,fillL,putAt,IHeap.load1,IHeap.loadL,IHeap.storeL,YV,YW,YX,YY,YZ,B0,B1,B2,B3,B4,B5,B6,B7,B8,B9,Ba,Bb,Bc,Bd,Be,Bf,Bg,Bh,Bi,Bj,Bk,Bl,Bm,Bn,Bo,Bp, t0, t1, t2, t7, t8, t9]
                    exact outI hle hB hr ho hn hm hw hO hj hN (by rw [hdE]; exact sd.of kV hlt)
                · by_cases k3 : d.kind = 3
                  · have hdE : R.deed d = (R, R.ask d.to) := by unfold Rp.deed; rw [if_neg k0, if_neg k1', if_neg k2, if_pos k3]
                    simp -implicitDefEqProofs [J0,J1,J2,J3,J4,J5,J6,J7,J8,J9,Ja,Jb,Jc,Jd,Je,Jf,Jg,Jh,Ji,Jj,Jk,Jl,Jm,Jn,Jo,Jp,Jq,Jr,Js,Jt,Ju,Jv,Jw,Jx,Jy,Jz,JA,JB,JC,JD,JE,JF,JG,JH,JI,JJ,JK,JL,JM,JN,JO,JP,JQ,JR,JS,stillI,IOp.kind,JT,JU,JV,JW,JX,JY,JZ,Y0,Y1,Y2,Y3,Y4,Y5,Y6,Y7,Y8,Y9,Ya,Yb,Yc,Yd,Ye,Yf,Yg,Yh,Yi,Yj,Yk,Yl,Ym,Yn,Yo,Yp,Yq,ial,Yr,Ys,Yt,Yu,Yv,Yw,Yx,Yy,ires,iresL,ires1,Yz,YA,YB,YC,YD,YE,bin2,YF,YG,YH,YI,YJ,YK,YL,YM,YN,YO,YP,YQ,YR,YS,YT,YU,un1,shOk,eqL,eq1,fillL,putAt,IHeap.load1,IHeap.loadL,IHeap.storeL,YV,YW,YX,YY,YZ,B0,B1,B2,B3,B4,B5,B6,B7,B8,B9,Ba,Bb,Bc,Bd,Be,Bf,Bg,Bh,Bi,Bj,Bk,Bl,Bm,Bn,Bo,Bp, t0, t1, t2, t7, t8, t9, k0, k1', k2, k3, gV]
                    refine call_of (RAsk_ok c hc hrV fun u3 H3 k3 nt => ?_)
                    simp -implicitDefEqProofs [J0,J1,J2,J3,J4,J5,J6,J7,J8,J9,Ja,Jb,Jc,Jd,Je,Jf,Jg,Jh,Ji,Jj,Jk,Jl,Jm,Jn,Jo,Jp,Jq,Jr,Js,Jt,Ju,Jv,Jw,Jx,Jy,Jz,JA,JB,JC,JD,JE,JF,JG,JH,JI,JJ,JK,JL,JM,JN,JO,JP,JQ,JR,JS,stillI,IOp.kind,JT,JU,JV,JW,JX,JY,JZ,Y0,Y1,Y2,Y3,Y4,Y5,Y6,Y7,Y8,Y9,Ya,Yb,Yc,Yd,Ye,Yf,Yg,Yh,Yi,Yj,Yk,Yl,Ym,Yn,Yo,Yp,Yq,ial,Yr,Ys,Yt,Yu,Yv,Yw,Yx,Yy,ires,iresL,ires1,Yz,YA,YB,YC,YD,YE,bin2,YF,YG,YH,YI,YJ,YK,YL,YM,YN,YO,YP,YQ,YR,YS,YT,YU,un1,shOk,eqL,eq1,fillL,putAt,IHeap.load1,IHeap.loadL,IHeap.storeL,YV,YW,YX,YY,YZ,B0,B1,B2,B3,B4,B5,B6,B7,B8,B9,Ba,Bb,Bc,Bd,Be,Bf,Bg,Bh,Bi,Bj,Bk,Bl,Bm,Bn,Bo,Bp, t0, t1, t2, t7, t8, t9]
                    have sd : Said Bx0 HV p R (R.ask d.to) u3 H3 := ⟨Bx0, k3.fr _, fun b hb => .inl hb, hrV.le k3, nt.weak fun b hb => ⟨hb.1, hb.2, fun hh => by have := hlt b hh; omega⟩⟩
                    exact outI hle hB hr ho hn hm hw hO hj hN (by rw [hdE]; exact sd.of kV hlt)
                  · have hdE : R.deed d = (R, []) := by unfold Rp.deed; rw [if_neg k0, if_neg k1', if_neg k2, if_neg k3]
                    simp -implicitDefEqProofs [J0,J1,J2,J3,J4,J5,J6,J7,J8,J9,Ja,Jb,Jc,Jd,Je,Jf,Jg,Jh,Ji,Jj,Jk,Jl,Jm,Jn,Jo,Jp,Jq,Jr,Js,Jt,Ju,Jv,Jw,Jx,Jy,Jz,JA,JB,JC,JD,JE,JF,JG,JH,JI,JJ,JK,JL,JM,JN,JO,JP,JQ,JR,JS,stillI,IOp.kind,JT,JU,JV,JW,JX,JY,JZ,Y0,Y1,Y2,Y3,Y4,Y5,Y6,Y7,Y8,Y9,Ya,Yb,Yc,Yd,Ye,Yf,Yg,Yh,Yi,Yj,Yk,Yl,Ym,Yn,Yo,Yp,Yq,ial,Yr,Ys,Yt,Yu,Yv,Yw,Yx,Yy,ires,iresL,ires1,Yz,YA,YB,YC,YD,YE,bin2,YF,YG,YH,YI,YJ,YK,YL,YM,YN,YO,YP,YQ,YR,YS,YT,YU,un1,shOk,eqL,eq1,fillL,putAt,IHeap.load1,IHeap.loadL,IHeap.storeL,YV,YW,YX,YY,YZ,B0,B1,B2,B3,B4,B5,B6,B7,B8,B9,Ba,Bb,Bc,Bd,Be,Bf,Bg,Bh,Bi,Bj,Bk,Bl,Bm,Bn,Bo,Bp, t0, t1, t2, t7, t8, t9, k0, k1', k2, k3, gV]
                    have sd : Said Bx0 HV p R [] (.slice none 0 0) HV := ⟨Bx0, Fr.refl _ _, fun b hb => .inl hb, hrV, NtsD.nil _ _⟩
                    exact outI hle hB hr ho hn hm hw hO hj hN (by rw [hdE]; exact sd.of kV hlt)
        · have hil' : ¬ (i : Int) < (l.length : Int) := by omega
          simp -implicitDefEqProofs [J0,J1,J2,J3,J4,J5,J6,J7,J8,J9,Ja,Jb,Jc,Jd,Je,Jf,Jg,Jh,Ji,Jj,Jk,Jl,Jm,Jn,Jo,Jp,Jq,Jr,Js,Jt,Ju,Jv,Jw,Jx,Jy,Jz,JA,JB,JC,JD,JE,JF,JG,JH,JI,JJ,JK,JL,JM,JN,JO,JP,JQ,JR,JS,stillI,IOp.kind,JT,JU,JV,JW,JX,JY,JZ,Y0,Y1,Y2,Y3,Y4,Y5,Y6,Y7,Y8,Y9,Ya,Yb,Yc,Yd,Ye,Yf,Yg,Yh,Yi,Yj,Yk,Yl,Ym,Yn,Yo,Yp,Yq,ial,Yr,Ys,Yt,Yu,Yv,Yw,Yx,Yy,ires,iresL,ires1,Yz,YA,YB,YC,YD,YE,bin2,YF,YG,YH,YI,YJ,YK,YL,YM,YN,YO,YP,YQ,YR,YS,YT,YU,un1,shOk,eqL,eq1,fillL,putAt,IHeap.load1,IHeap.loadL,IHeap.storeL,YV,YW,YX,YY,YZ,B0,B1,B2,B3,B4,B5,B6,B7,B8,B9,Ba,Bb,Bc,Bd,Be,Bf,Bg,Bh,Bi,Bj,Bk,Bl,Bm,Bn,Bo,Bp, t0, t1, t2, t7, t8, t9, hve, hil, hil']
          refine call_of (hW _ _ fun H' => ?_)
          simp -implicitDefEqProofs [J0,J1,J2,J3,J4,J5,J6,J7,J8,J9,Ja,Jb,Jc,Jd,Je,Jf,Jg,Jh,Ji,Jj,Jk,Jl,Jm,Jn,Jo,Jp,Jq,Jr,Js,Jt,Ju,Jv,Jw,Jx,Jy,Jz,JA,JB,JC,JD,JE,JF,JG,JH,JI,JJ,JK,JL,JM,JN,JO,JP,JQ,JR,JS,stillI,IOp.kind,JT,JU,JV,JW,JX,JY,JZ,Y0,Y1,Y2,Y3,Y4,Y5,Y6,Y7,Y8,Y9,Ya,Yb,Yc,Yd,Ye,Yf,Yg,Yh,Yi,Yj,Yk,Yl,Ym,Yn,Yo,Yp,Yq,ial,Yr,Ys,Yt,Yu,Yv,Yw,Yx,Yy,ires,iresL,ires1,Yz,YA,YB,YC,YD,YE,bin2,YF,YG,YH,YI,YJ,YK,YL,YM,YN,YO,YP,YQ,YR,YS,YT,YU,un1,shOk,eqL,eq1,fillL,putAt,IHeap.load1,IHeap.loadL,IHeap.storeL,YV,YW,YX,YY,YZ,B0,B1,B2,B3,B4,B5,B6,B7,B8,B9,Ba,Bb,Bc,Bd,Be,Bf,Bg,Bh,Bi,Bj,Bk,Bl,Bm,Bn,Bo,Bp]
          exact hK _
end
end Go.Proofs.YtfmjbmddghjjmaaI
namespace Go.Proofs.YtfmjbmddghjjmaaI
set_option linter.unusedSimpArgs false
set_option linter.unusedVariables false
open Go
section
variable {H : IHeap}
theorem arg_room {by' size : Nat} {e : List Sh} {v : Value} {d : List D} {rows : List (List Value)} (h : ArgRep H false v d) (ho : okDs [.sl by' size e] d) (hs : SlR H size v rows) : SlW H size v rows := by
  obtain ⟨x, d', rfl, hx, h2⟩ := okDs_sl ho
  obtain rfl := okDs_nil h2
  obtain ⟨u, us, eq, h3, h4⟩ := Reps.cons_inv h
  injection eq with e1 e2
  subst e1
  have hs' := hs
  obtain ⟨a, cap, e, _⟩ := hs
  cases h3 with
  | b x => simp [okD] at hx
  | i k n => simp [okD] at hx
  | s x => simp [okD] at hx
  | nil =>
    simp only [Value.slice.injEq] at e
    exact ⟨hs', none, 0, by rw [← e.2.1], .inl rfl, .inl ⟨by unfold UNK; omega, by omega⟩⟩
  | z id o =>
    simp only [Value.slice.injEq] at e
    exact ⟨hs', _, 0, by rw [← e.2.1], .inr ⟨id, o, rfl⟩, .inl ⟨by unfold UNK; omega, by omega⟩⟩
  | sl id len es vs hne hunk hget hvl hreps =>
    simp only [okD] at hx
    simp only [Value.slice.injEq] at e
    exact ⟨hs', _, es.length, by rw [← e.2.1], .inr ⟨id, 0, rfl⟩, .inl ⟨hunk, by omega⟩⟩
theorem deeds_of : ∀ {rows : List (List Value)}, (∀ r ∈ rows, ∃ (x : DeedR) (u : Value), r = rowR x u ∧ SlW H 4 u (x.note.votes.map rowV)) →
    ∃ (us : List Value) (l : List DeedR), rows = List.zipWith rowR l us ∧ us.length = l.length ∧ ∀ (i : Nat) (x : DeedR) (u : Value), l[i]? = some x → us[i]? = some u → SlW H 4 u (x.note.votes.map rowV)
  | [], _ => ⟨[], [], rfl, rfl, by simp⟩
  | r :: rows, h => by
    obtain ⟨x, u, rfl, hq⟩ := h r (by simp)
    obtain ⟨us, l, rfl, h2, h3⟩ := deeds_of (rows := rows) fun x hx => h x (by simp [hx])
    refine ⟨u :: us, x :: l, rfl, by simp [h2], fun i y w a b => ?_⟩
    cases i with
    | zero => simp at a b; subst a; subst b; exact hq
    | succ i => exact h3 i y w (by simpa using a) (by simpa using b)
theorem arg_DeedsR {v : Value} {d : List D} (wf : ∀ b, H.next ≤ b → H.get b = none) (h : ArgRep H false v d) (ho : okDs [.sl 104 10 [.i .i64, .i .i64, .s, .i .i64, .i .i64, .i .i64, .i .i64, .i .i64, .i .i64, .sl 40 4 [.i .i64, .i .i64, .i .i64, .s]]] d) : ∃ l : List DeedR, DsR H v l := by
  obtain ⟨rows, s0, _, _, r0⟩ := arg_sl wf h ho
  obtain ⟨us, l, rfl, h1, h2⟩ := deeds_of (H := H) (rows := rows) fun r hr => by
    obtain ⟨ds, q1, q2⟩ := r0 r hr
    obtain ⟨x1, d', rfl, w1, q2⟩ := okDs_i q2
    obtain ⟨x2, d', rfl, w2, q2⟩ := okDs_i q2
    obtain ⟨t3, d', rfl, w3, q2⟩ := okDs_s q2
    obtain ⟨x4, d', rfl, w4, q2⟩ := okDs_i q2
    obtain ⟨x5, d', rfl, w5, q2⟩ := okDs_i q2
    obtain ⟨x6, d', rfl, w6, q2⟩ := okDs_i q2
    obtain ⟨x7, d', rfl, w7, q2⟩ := okDs_i q2
    obtain ⟨x8, d', rfl, w8, q2⟩ := okDs_i q2
    obtain ⟨x9, d', rfl, w9, q2⟩ := okDs_i q2
    obtain ⟨y, d', rfl, wy, q3⟩ := okDs_sl q2
    obtain rfl := okDs_nil q3
    obtain ⟨u1, us1, rfl, r1, q1⟩ := q1.cons_inv
    obtain ⟨u2, us2, rfl, r2, q1⟩ := q1.cons_inv
    obtain ⟨u3, us3, rfl, r3, q1⟩ := q1.cons_inv
    obtain ⟨u4, us4, rfl, r4, q1⟩ := q1.cons_inv
    obtain ⟨u5, us5, rfl, r5, q1⟩ := q1.cons_inv
    obtain ⟨u6, us6, rfl, r6, q1⟩ := q1.cons_inv
    obtain ⟨u7, us7, rfl, r7, q1⟩ := q1.cons_inv
    obtain ⟨u8, us8, rfl, r8, q1⟩ := q1.cons_inv
    obtain ⟨u9, us9, rfl, r9, q1⟩ := q1.cons_inv
    obtain ⟨u, us, rfl, ru, q1⟩ := q1.cons_inv
    obtain rfl := q1.nil_inv
    obtain rfl := r1.i_inv
    obtain rfl := r2.i_inv
    obtain rfl := r3.s_inv
    obtain rfl := r4.i_inv
    obtain rfl := r5.i_inv
    obtain rfl := r6.i_inv
    obtain rfl := r7.i_inv
    obtain rfl := r8.i_inv
    obtain rfl := r9.i_inv
    have ha : ArgRep H false u [y] := Reps.one ru
    obtain ⟨vr, v0, _, _, v2⟩ := arg_sl wf ha q2
    obtain ⟨vl, rfl⟩ := rows_of (f := rowV) fun r hr => by obtain ⟨ds, a1, a2⟩ := v2 r hr; exact row_Vote a1 a2
    exact ⟨⟨x1, x2, t3, ⟨x4, x5, x6, x7, x8, x9, vl⟩⟩, u, rfl, arg_room ha q2 v0⟩
  exact ⟨l, us, h1, s0, h2⟩
end
end Go.Proofs.YtfmjbmddghjjmaaI
