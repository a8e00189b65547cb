/- A node alone: it takes what it says. / A node: what stays right; how much it says. / A node: what it asks for by one ballot is one vote a slot. / PRINTED by gen.py (this session's own): the intermediate form of some functions, and a context's having them. / Notes under way: an own slice; one is taken out. / Notes under way: more of them; the place of one. / Notes under way: what is done with them. / Nodes, and notes under way: how they stand. -/
import Derived.Test.YtpbbjfighohokaaRpJ
import Derived.Test.YtpbbjfighohokaaIdealZ
namespace Go.Proofs.YtpbbjfighohokaaI
set_option linter.unusedSimpArgs false
set_option linter.unusedVariables false
open Go

def isStr : Value → Bool
  | .string _ => true
  | _ => false
theorem votes_off {D : Nat → Prop} {H : IHeap} {w : Value} {l : List VoteD} {b : Nat} {cs : List Value} {ro : Bool} (h : SwD D H 4 w (l.map rowV)) (hg : H.get b = some (.cells cs ro)) (hs : cs.all (fun x => !isStr x) = true) : SwD (fun x => D x ∧ x ≠ b) H 4 w (l.map rowV) := by
  refine ⟨⟨h.1.1, fun b' o n c e hr => ⟨h.1.2 b' o n c e hr, ?_⟩⟩, h.2⟩
  rintro rfl
  obtain ⟨a, cap, e2, h2⟩ := h.1.1
  obtain ⟨b2, o2, cs2, ro2, rfl, hb2, hg2, hrow⟩ := h2 hr
  rw [e] at e2
  simp only [Value.slice.injEq, Option.some.injEq, Addr.mk.injEq] at e2
  obtain ⟨⟨rfl, -⟩, -⟩ := e2
  rw [hg] at hg2
  simp only [Option.some.injEq, IObj.cells.injEq] at hg2
  obtain ⟨rfl, rfl⟩ := hg2
  cases l with
  | nil => exact hr rfl
  | cons v l =>
    have := (hrow 0 (rowV v) (by simp)).2.1
    have h3 := row_at this 3 (by omega)
    simp only [rowV, List.getElem?_cons_succ, List.getElem?_cons_zero] at h3
    have hm := List.mem_of_getElem? h3
    have := List.all_eq_true.1 hs _ hm
    simp [isStr] at this
theorem zip_nostr {D : Nat → Prop} {H : IHeap} {l : List NoteD} {us : List Value} (h1 : us.length = l.length) (h : ∀ (i : Nat) (x : NoteD) (u : Value), l[i]? = some x → us[i]? = some u → SwD D H 4 u (x.votes.map rowV)) : (List.zipWith rowN l us).flatten.all (fun x => !isStr x) = true := by
  rw [List.all_eq_true]
  intro y hy
  obtain ⟨r, hr, hy⟩ := List.mem_flatten.1 hy
  obtain ⟨j, hj⟩ := List.getElem?_of_mem hr
  rw [List.getElem?_zipWith] at hj
  split at hj
  · rename_i a b ha hb
    injection hj with hj; subst hj
    obtain ⟨ua, uc, hu⟩ := (h j a b ha hb).2.len
    simp only [rowN, List.mem_cons, List.not_mem_nil, or_false] at hy
    rcases hy with rfl | rfl | rfl | rfl | rfl | rfl | rfl <;> first | rfl | (rw [hu]; rfl)
  · cases hj

/-- More notes. -/
theorem NtsD.append {D D2 : Nat → Prop} {H : IHeap} {v u : Value} {l m : List NoteD} (h : NtsD D H v l) (k : NtsD D2 H u m) (hl : (l.length + m.length) * 72 ≤ 140737488355328) :
    ∃ v' H' news, firstI H 7 m.length u = some news ∧ appendI H 7 72 v m.length news = some (v', H') ∧ NtsD (fun b => D b ∨ D2 b ∨ (H.next ≤ b ∧ b < H'.next)) H' v' (l ++ m) ∧ Fr D H H' := by
  obtain ⟨us, h1, h2, h3, h4⟩ := h
  obtain ⟨ws, k1, k2, k3, _⟩ := k
  have hzl := zip_len h1
  have hzm := zip_len k1
  have hone : ∀ w ∈ ws, one1 w = true := by
    intro w hw
    obtain ⟨j, hj⟩ := List.getElem?_of_mem hw
    have hjl := (List.getElem?_eq_some_iff.1 hj).1
    exact (k3 j m[j] w (List.getElem?_eq_getElem (by omega)) hj).2.one
  have hf := k2.2.first (by omega)
  rw [hzm] at hf
  -- the end of it
  have fin : ∀ (v' : Value) (H' : IHeap) (S : Nat → Prop), appendI H 7 72 v m.length (List.zipWith rowN m ws).flatten = some (v', H') → Fr S H H' → (∀ b, S b → D b) → SwD (fun b => D b ∨ D2 b ∨ (H.next ≤ b ∧ b < H'.next)) H' 7 v' (List.zipWith rowN l us ++ List.zipWith rowN m ws) →
      BufD H' 7 v' (List.zipWith rowN l us ++ List.zipWith rowN m ws) → (∀ (x : NoteD) (w : Value) (E : Nat → Prop), SwD E H 4 w (x.votes.map rowV) → SwD (fun b => E b ∧ ¬ S b) H 4 w (x.votes.map rowV)) →
      ∃ v' H' news, firstI H 7 m.length u = some news ∧ appendI H 7 72 v m.length news = some (v', H') ∧ NtsD (fun b => D b ∨ D2 b ∨ (H.next ≤ b ∧ b < H'.next)) H' v' (l ++ m) ∧ Fr D H H' := by
    intro v' H' S e1 e2 e3 e4 e5 e6
    refine ⟨v', H', _, hf, e1, ⟨us ++ ws, by simp [h1, k1], ?_, ?_, ?_⟩, e2.weak e3⟩
    · rw [List.zipWith_append h1.symm]; exact e4
    · intro i x w a b
      by_cases hi : i < l.length
      · rw [List.getElem?_append_left hi] at a
        rw [List.getElem?_append_left (by omega)] at b
        exact ((e6 x w D (h3 i x w a b)).fr e2 fun b hb => hb.2).weak fun b hb => .inl hb.1
      · rw [List.getElem?_append_right (by omega)] at a
        rw [List.getElem?_append_right (by omega), h1] at b
        exact ((e6 x w D2 (k3 _ x w a b)).fr e2 fun b hb => hb.2).weak fun b hb => .inr (.inl hb.1)
    · rw [List.zipWith_append h1.symm]; exact e5
  by_cases hmz : m = []
  · subst hmz
    have hwz : ws = [] := List.length_eq_zero_iff.1 k1
    subst hwz
    refine fin v H (fun _ => False) ?_ (Fr.refl _ _) (fun _ h => h.elim) ?_ (by simpa using h4) (fun x w E hw => hw.weak fun b hb => ⟨hb, fun h => h⟩)
    · obtain ⟨a, cap, e, e2, e3⟩ := h2.2.2
      subst e
      rw [hzl] at e3 ⊢
      have hc : l.length ≤ cap := by rcases e3 with ⟨_, e3⟩ | ⟨e3, _⟩; exact e3; rw [e3]; unfold UNK; omega
      have hl1 : l.length * 72 ≤ 140737488355328 := by simpa using hl
      have hl2 : l.length ≤ 140737488355328 := by omega
      show appendI H 7 72 (.slice a l.length cap) 0 [] = _
      simp [appendI, hl1, hl2, hc]
    · simp only [List.zipWith_nil_left, List.append_nil]
      exact h2.weak fun b hb => .inl hb
  · have hmr : List.zipWith rowN m ws ≠ [] := fun hz => hmz (List.length_eq_zero_iff.1 (by rw [← hzm, hz]; rfl))
    rcases h4 with ⟨e1, rfl⟩ | ⟨hne, ht | ⟨b, hg⟩⟩
    · have hlz : l = [] := List.length_eq_zero_iff.1 (by rw [← hzl, e1]; rfl)
      subst hlz
      obtain ⟨v', H', o', q1, q2, q3, q4⟩ := GrowAt.append (o := none) (bytes := 72) (new := List.zipWith rowN m ws) (show GrowAt none H 7 (.slice none 0 0) [] from ⟨rfl, rfl⟩) (by omega) (by omega) (by rw [hzm]; simpa using hl) (by rw [hzm]; simp at hl ⊢; omega) (zip_seven m ws) (zip_one hone)
      rw [hzm] at q1
      rcases q4 with ⟨_, q4⟩ | ⟨z, q4, q5, _⟩
      · exact absurd q4 hmr
      · subst q4
        have hgw := (q2.grow (N := H.next) (fun b hb => by injection hb with hb; omega)).swD
        refine fin v' H' (fun _ => False) q1 (q3.weak fun b hb => by cases hb) (fun _ h => h.elim) (hgw.weak fun b hb => .inr (.inr hb)) (.inr ⟨by simpa using hmr, .inr ⟨z, q2⟩⟩) (fun x w E hw => hw.weak fun b hb => ⟨hb, fun h => h⟩)
    · have hps : 0 < (List.zipWith rowN m ws).length := List.length_pos_iff.2 hmr
      obtain ⟨r7, blk, o, cs, ro, t1, t2, rfl, t4, t5, t6⟩ := ht
      have hall : ∀ r ∈ List.zipWith rowN l us ++ List.zipWith rowN m ws, r.length = 7 := fun r hr => by rcases List.mem_append.1 hr with h | h; exact r7 r h; exact zip_seven m ws r h
      have hH' : GrowAt (some H.next) (H.alloc (.cells ((List.zipWith rowN l us).flatten ++ (List.zipWith rowN m ws).flatten) false)) 7 (.slice (some ⟨H.next, 0, none⟩) (l.length + m.length) (UNK + 7)) (List.zipWith rowN l us ++ List.zipWith rowN m ws) :=
        ⟨by rw [YX]; omega, hall, by rw [List.length_append, hzl, hzm], by rw [YV, if_pos rfl]; simp⟩
      refine fin (.slice (some ⟨H.next, 0, none⟩) (l.length + m.length) (UNK + 7)) (H.alloc (.cells ((List.zipWith rowN l us).flatten ++ (List.zipWith rowN m ws).flatten) false)) (fun _ => False) ?_ ((H.le_alloc _).fr _) (fun _ h => h.elim)
        ((hH'.grow (N := H.next) (fun b hb => by injection hb with hb; omega)).swD.weak fun b hb => .inr (.inr hb)) (.inr ⟨by simp [hne], .inr ⟨_, hH'⟩⟩) (fun x w E hw => hw.weak fun b hb => ⟨hb, fun h => h⟩)
      have hf2 : firstI H 7 (List.zipWith rowN l us).length (.slice (some ⟨blk, o, none⟩) (List.zipWith rowN l us).length (List.zipWith rowN l us).length) = some (List.zipWith rowN l us).flatten := by
        simp only [firstI, IHeap.loadL, t4]
        by_cases hz : (List.zipWith rowN l us).length * 7 = 0
        · rw [if_pos hz]
          have : (List.zipWith rowN l us).length = 0 := by omega
          simp [List.length_eq_zero_iff.1 this]
        · rw [if_neg hz, if_pos t6, t5]
      have hfl := flat_len _ 7 (zip_seven m ws)
      rw [hzl] at hf2 ⊢
      rw [hzm] at hps hfl
      simp only [appendI]
      rw [if_pos ⟨hl, by omega, by omega, by omega, hfl⟩, if_neg (by omega), if_neg (fun h => by have := h.2; omega)]
      rw [hzl] at t2
      simp only [hf2, t2, if_true]
    · obtain ⟨v', H', o', q1, q2, q3, q4⟩ := hg.append (bytes := 72) (new := List.zipWith rowN m ws) (by omega) (by omega) (by rw [hzl, hzm]; exact hl) (by rw [hzl, hzm]; omega) (zip_seven m ws) (zip_one hone)
      rw [hzm] at q1
      rcases q4 with ⟨_, q4⟩ | ⟨z, q4, q5, _⟩
      · exact absurd q4 hmr
      · subst q4
        have hDb : D b := h2.1.2 b 0 _ _ hg.2.2.1 hne
        refine fin v' H' (fun x => x = b) q1 (q3.weak fun x hx => by injection hx with hx; exact hx.symm) (fun x hx => hx ▸ hDb) (((q2.grow (N := H.next) (fun b hb => by injection hb with hb; omega)).swD).weak fun b hb => .inr (.inr hb)) (.inr ⟨by simp [hne], .inr ⟨z, q2⟩⟩) (fun x w E hw => votes_off hw hg.2.2.2 (zip_nostr h1 h3))
end Go.Proofs.YtpbbjfighohokaaI
namespace Go.Proofs.YtpbbjfighohokaaI
set_option linter.unusedSimpArgs false
set_option linter.unusedVariables false
open Go

theorem IsR.sorted {B : Nat → Prop} {H : IHeap} {p : Nat} {R : Rp} (h : IsR B H p R) : Sorted R.A.L := by obtain ⟨_, _, _, _, _, _, h, _⟩ := h; exact h.a.sorted
theorem IsR.lok {B : Nat → Prop} {H : IHeap} {p : Nat} {R : Rp} (h : IsR B H p R) : R.L.ok := by obtain ⟨_, _, _, _, _, _, h, _⟩ := h; exact h.l.ok
theorem tell_n (L : Lr) (s : Int) (v : ByteArray) : (L.tell s v).n = L.n := rfl
theorem hear_n (L : Lr) (fr : Int) (v : VoteD) : (L.hear fr v).1.n = L.n := by
  unfold Lr.hear
  split
  · split <;> rfl
  · rfl
theorem tells_n : ∀ (l : List VoteD) (L : Lr), (tells L l).n = L.n
  | [], _ => rfl
  | v :: l, L => by
    have := tells_n l (if mayB L v.slot v.val = true then L.tell v.slot v.val else L)
    unfold tells at this ⊢
    rw [List.foldl_cons, this]
    split <;> rfl
theorem lead_n (P : Pro) (a n fr : Int) : (P.lead a n fr).1.n = P.n ∧ (P.lead a n fr).1.me = P.me := by
  unfold Pro.lead
  split
  · exact ⟨rfl, rfl⟩
  · split <;> exact ⟨rfl, rfl⟩
theorem propose_n (P : Pro) (s : ByteArray) : (P.propose s).1.n = P.n ∧ (P.propose s).1.me = P.me := by
  unfold Pro.propose
  (repeat' split) <;> exact ⟨rfl, rfl⟩

theorem Rp.ok.prepare {R : Rp} (h : R.ok) (x : NoteD) : (R.prepare x).1.ok ∧ (R.prepare x).1.n = R.n ∧ (R.prepare x).1.me = R.me := by
  have hs := step_n R.P x.ba x.bn
  have h1 : (R.P.step x.ba x.bn).1.ok := h.1.step x.ba x.bn
  have h5 := acc_promise_ok h.2.2.2.2 x.ba x.bn x.slot
  unfold Rp.prepare
  split
  · exact ⟨⟨h1, hs.1.trans h.2.1, hs.2.trans h.2.2.1, h.2.2.2.1, h.2.2.2.2⟩, rfl, rfl⟩
  · split <;> exact ⟨⟨h1, hs.1.trans h.2.1, hs.2.trans h.2.2.1, h.2.2.2.1, h5⟩, rfl, rfl⟩
theorem Rp.ok.promise {R : Rp} (h : R.ok) (x : NoteD) : (R.promise x).1.ok ∧ (R.promise x).1.n = R.n ∧ (R.promise x).1.me = R.me := by
  have hs := promise_n R.P x.fr x.ba x.bn x.votes
  have h1 := h.1.promise x.fr x.ba x.bn x.votes
  unfold Rp.promise
  split
  · exact ⟨⟨h1, hs.1.trans h.2.1, hs.2.trans h.2.2.1, h.2.2.2⟩, rfl, rfl⟩
  · split <;> exact ⟨⟨h1, hs.1.trans h.2.1, hs.2.trans h.2.2.1, h.2.2.2⟩, rfl, rfl⟩
theorem Rp.ok.accept {R : Rp} (h : R.ok) (v : VoteD) : (R.accept v).1.ok ∧ (R.accept v).1.n = R.n ∧ (R.accept v).1.me = R.me := by
  have hs := step_n R.P v.a v.n
  exact ⟨⟨h.1.step v.a v.n, hs.1.trans h.2.1, hs.2.trans h.2.2.1, h.2.2.2.1, acc_ok h.2.2.2.2 v⟩, rfl, rfl⟩
theorem Rp.ok.take {R : Rp} (h : R.ok) (x : NoteD) : (R.take x).1.ok ∧ (R.take x).1.n = R.n ∧ (R.take x).1.me = R.me := by
  unfold Rp.take
  split
  · exact ⟨h, rfl, rfl⟩
  split
  · exact h.prepare x
  split
  · exact h.promise x
  split
  · exact h.accept _
  split
  · exact ⟨⟨h.1, h.2.1, h.2.2.1, (hear_n _ _ _).trans h.2.2.2.1, h.2.2.2.2⟩, rfl, rfl⟩
  split
  · exact ⟨h, rfl, rfl⟩
  split
  · exact ⟨⟨h.1, h.2.1, h.2.2.1, (tells_n _ _).trans h.2.2.2.1, h.2.2.2.2⟩, rfl, rfl⟩
  · exact ⟨h, rfl, rfl⟩
theorem Rp.ok.lead {R : Rp} (h : R.ok) : R.lead.1.ok ∧ R.lead.1.n = R.n ∧ R.lead.1.me = R.me := by
  have hs := lead_n R.P R.A.pa R.A.pn (nextL R.L)
  have h1 := h.1.lead R.A.pa R.A.pn (nextL R.L)
  unfold Rp.lead
  split
  · exact ⟨h, rfl, rfl⟩
  · exact ⟨⟨h1, hs.1.trans h.2.1, hs.2.trans h.2.2.1, h.2.2.2.1, acc_promise_ok h.2.2.2.2 _ _ _⟩, rfl, rfl⟩
theorem Rp.ok.propose {R : Rp} (h : R.ok) (s : ByteArray) : (R.propose s).1.ok ∧ (R.propose s).1.n = R.n ∧ (R.propose s).1.me = R.me := by
  have hs := propose_n R.P s
  have h1 := h.1.propose s
  unfold Rp.propose
  split
  · exact ⟨h, rfl, rfl⟩
  · exact ⟨⟨h1, hs.1.trans h.2.1, hs.2.trans h.2.2.1, h.2.2.2⟩, rfl, rfl⟩
theorem tellE_n : ∀ (k : Nat) (L : Lr), (tellE L k).n = L.n
  | 0, _ => rfl
  | k + 1, L => by
    simp only [tellE]
    split
    · exact tellE_n k L
    · exact tellE_n k L
theorem Rp.ok.crash {R : Rp} (h : R.ok) : R.crash.ok ∧ R.crash.n = R.n ∧ R.crash.me = R.me := by
  have h1 := h.1
  refine ⟨⟨ok_new ?_ ?_ ?_, rfl, rfl, tellE_n _ _, h.2.2.2.2⟩, rfl, rfl⟩
  · rw [← h.2.1]; exact h1.1
  · rw [← h.2.2.1]; exact h1.2.1
  · rw [← h.2.2.1, ← h.2.1]; exact h1.2.2.1

/-! ### how much -/
theorem allN_len (R : Rp) (h : R.ok) (x : NoteD) : (allN R x).length ≤ 7 := by
  have h1 := quorumI_ne h.1.1
  have h2 := h.2.1
  unfold allN
  rw [List.length_map, List.length_range]
  omega
theorem allN_mem {R : Rp} {x y : NoteD} (h : y ∈ allN R x) : ∃ i : Nat, (i : Int) < R.n ∧ y = { x with fr := R.me, to := (i : Int) } := by
  unfold allN at h
  obtain ⟨i, hi, rfl⟩ := List.mem_map.1 h
  have := List.mem_range.1 hi
  exact ⟨i, by omega, rfl⟩
theorem flat_all_len (R : Rp) (h : R.ok) (l : List VoteD) (k : Int) : (l.flatMap fun v => allN R (voteN k v)).length ≤ 7 * l.length := by
  induction l with
  | nil => exact Nat.le_refl _
  | cons v l ih => rw [List.flatMap_cons, List.length_append, List.length_cons]; have := allN_len R h (voteN k v); omega
theorem fill_len {P : Pro} (h : P.ok) : (P.fill (endP P)).length ≤ 1024 := by
  unfold Pro.fill
  rw [filledL_len]
  have z := endP_bd h
  obtain ⟨_, _, _, z4, z5, z6, _, _⟩ := h
  omega
/-- What it says at once is not too much. -/
def Short (l : List NoteD) : Prop := l.length ≤ 7168 ∧ ∀ y ∈ l, y.votes.length ≤ 1024
theorem short_nil : Short [] := ⟨by simp, by simp⟩
theorem short_all {R : Rp} (h : R.ok) {x : NoteD} (hx : x.votes.length ≤ 1024) : Short (allN R x) := by
  refine ⟨by have := allN_len R h x; omega, fun y hy => ?_⟩
  obtain ⟨i, _, rfl⟩ := allN_mem hy
  exact hx
theorem logL_len {L : Lr} (h : L.ok) (u : Int) : (logL L u).length ≤ 1024 := by
  unfold logL
  rw [List.length_map, List.length_range]
  have h1 := (nextL_ok h).2.1
  have h2 := h.2.2.1
  split <;> omega
theorem short_take {R : Rp} (h : R.ok) (hs : Sorted R.A.L) (x : NoteD) : Short (R.take x).2 := by
  unfold Rp.take
  split
  · exact short_nil
  split
  · unfold Rp.prepare
    split
    · exact short_nil
    split
    · exact short_nil
    · refine ⟨by simp, fun y hy => ?_⟩
      simp only [List.mem_singleton] at hy
      subst hy
      have h1 := acc_len h.2.2.2.2 hs
      show (R.A.promise x.ba x.bn x.slot).2.1.length ≤ 1024
      unfold Acc.promise
      split
      · simp
      · exact Nat.le_trans (List.length_filter_le _ _) h1
  split
  · unfold Rp.promise
    split
    · exact short_nil
    split
    · exact short_nil
    · have hp := h.1.promise x.fr x.ba x.bn x.votes
      have h1 := fill_len hp
      have h2 := flat_all_len R h ((R.P.promise x.fr x.ba x.bn x.votes).1.fill (endP (R.P.promise x.fr x.ba x.bn x.votes).1)) 3
      refine ⟨by show (List.flatMap _ _).length ≤ _; omega, fun y hy => ?_⟩
      obtain ⟨v, _, hy⟩ := List.mem_flatMap.1 hy
      exact (short_all h (x := voteN 3 v) (by simp [voteN])).2 y hy
  split
  · unfold Rp.accept
    split
    · exact short_all h (by simp [voteN])
    · exact short_nil
  split
  · exact short_nil
  split
  · unfold Rp.tell
    split
    · exact short_nil
    split
    · exact short_nil
    · refine ⟨by simp, fun y hy => ?_⟩
      simp only [List.mem_singleton] at hy
      subst hy
      show (tellN R x).length ≤ 1024
      unfold tellN
      rw [votesFrom_len, List.length_take]
      omega
  split <;> exact short_nil
theorem short_lead {R : Rp} (h : R.ok) : Short R.lead.2 := by
  unfold Rp.lead
  split
  · exact short_nil
  · exact short_all h (by simp [prepN])
theorem short_propose {R : Rp} (h : R.ok) (s : ByteArray) : Short (R.propose s).2.1 := by
  unfold Rp.propose
  split
  · exact short_nil
  · exact short_all h (by simp [voteN])
theorem short_ask (R : Rp) (i : Int) : Short (R.ask i) := by
  unfold Rp.ask
  split
  · exact ⟨by simp, fun y hy => by simp only [List.mem_singleton] at hy; subst hy; exact Nat.zero_le _⟩
  · exact short_nil

end Go.Proofs.YtpbbjfighohokaaI
namespace Go.Proofs.YtpbbjfighohokaaI
set_option linter.unusedSimpArgs false
set_option linter.unusedVariables false
open Go

theorem cmpB_ge {a n b m : Int} : 0 ≤ cmpB a n b m ↔ (b < a ∨ (a = b ∧ m ≤ n)) := by
  unfold cmpB cmpI
  repeat' split
  all_goals omega
theorem validB_iff {a n : Int} : validB a n = true ↔ 0 ≤ a ∧ a < 2147483648 ∧ 0 ≤ n ∧ n < 7 := by
  unfold validB
  rw [decide_eq_true_eq]

structure DeedR where
  kind : Int
  to : Int
  text : ByteArray
  note : NoteD
def Rp.deed (R : Rp) (d : DeedR) : Rp × List NoteD :=
  if d.kind = 0 then R.lead else if d.kind = 1 then ((R.propose d.text).1, (R.propose d.text).2.1) else if d.kind = 2 then R.take d.note else if d.kind = 3 then (R, R.ask d.to) else (R, [])
theorem Rp.ok.deed {R : Rp} (h : R.ok) (d : DeedR) : (R.deed d).1.ok ∧ (R.deed d).1.n = R.n ∧ (R.deed d).1.me = R.me := by
  unfold Rp.deed
  split
  · exact h.lead
  split
  · exact h.propose d.text
  split
  · exact h.take d.note
  split <;> exact ⟨h, rfl, rfl⟩

/-! ### what a note is -/
def OkN (R : Rp) (y : NoteD) : Prop := y.fr = R.me ∧ 0 ≤ y.to ∧ y.to < R.n ∧ 1 ≤ y.kind ∧ y.kind ≤ 6 ∧ (y.kind = 3 → y.votes.length = 1)
theorem okN_all {R : Rp} {x y : NoteD} (h : y ∈ allN R x) (h1 : 1 ≤ x.kind ∧ x.kind ≤ 6) (h2 : x.kind = 3 → x.votes.length = 1) : OkN R y := by
  obtain ⟨i, hi, rfl⟩ := allN_mem h
  exact ⟨rfl, by show (0 : Int) ≤ i; omega, hi, h1.1, h1.2, h2⟩
theorem isNode_iff {R : Rp} {i : Int} (h : ¬ R.isNode i = false) : 0 ≤ i ∧ i < R.n := by
  unfold Rp.isNode at h
  simpa using h
theorem okN_deed {R : Rp} (d : DeedR) {y : NoteD} (hy : y ∈ (R.deed d).2) : OkN R y := by
  unfold Rp.deed at hy
  split at hy
  · unfold Rp.lead at hy
    split at hy
    · cases hy
    · exact okN_all hy ⟨by simp [prepN], by simp [prepN]⟩ (by simp [prepN])
  split at hy
  · unfold Rp.propose at hy
    split at hy
    · cases hy
    · exact okN_all hy ⟨by simp [voteN], by simp [voteN]⟩ (by simp [voteN])
  split at hy
  · unfold Rp.take at hy
    split at hy
    · cases hy
    rename_i hc
    simp only [not_or] at hc
    have hn := isNode_iff hc.1
    split at hy
    · unfold Rp.prepare at hy
      split at hy
      · cases hy
      split at hy
      · cases hy
      · simp only [List.mem_singleton] at hy
        subst hy
        exact ⟨rfl, hn.1, hn.2, by simp, by simp, by simp⟩
    split at hy
    · unfold Rp.promise at hy
      split at hy
      · cases hy
      split at hy
      · cases hy
      · obtain ⟨v, _, hy⟩ := List.mem_flatMap.1 hy
        exact okN_all hy ⟨by simp [voteN], by simp [voteN]⟩ (by simp [voteN])
    split at hy
    · unfold Rp.accept at hy
      split at hy
      · exact okN_all hy ⟨by simp [voteN], by simp [voteN]⟩ (by simp [voteN])
      · cases hy
    split at hy
    · cases hy
    split at hy
    · unfold Rp.tell at hy
      split at hy
      · cases hy
      split at hy
      · cases hy
      · simp only [List.mem_singleton] at hy
        subst hy
        exact ⟨rfl, hn.1, hn.2, by simp, by simp, by simp⟩
    split at hy <;> cases hy
  split at hy
  · unfold Rp.ask at hy
    split at hy
    · rename_i hc
      simp only [List.mem_singleton] at hy
      subst hy
      have hn := isNode_iff (R := R) (i := d.to) (by simp [hc])
      exact ⟨rfl, hn.1, hn.2, by simp [askN], by simp [askN], by simp [askN]⟩
    · cases hy
  · cases hy

/-! ### the votes that are asked for -/
def askV (y : NoteD) : Option VoteD := if y.kind = 3 ∧ y.to = 0 then some (headV y.votes) else none
def asks (l : List NoteD) : List VoteD := l.filterMap askV
theorem asks_nil : asks [] = [] := rfl
theorem asks_append (l m : List NoteD) : asks (l ++ m) = asks l ++ asks m := List.filterMap_append
theorem asks_none {l : List NoteD} (h : ∀ y ∈ l, y.kind ≠ 3) : asks l = [] := by
  unfold asks
  rw [List.filterMap_eq_nil_iff]
  intro y hy
  unfold askV
  rw [if_neg (fun hh => h y hy hh.1)]
theorem asks_all_none {R : Rp} {x : NoteD} (h : x.kind ≠ 3) : asks (allN R x) = [] := asks_none fun y hy => by
  obtain ⟨i, _, rfl⟩ := allN_mem hy
  exact h
theorem asks_from (me : Int) (v : VoteD) : ∀ k s, asks ((List.range' (s + 1) k).map fun (i : Nat) => ({ voteN 3 v with fr := me, to := (i : Int) } : NoteD)) = []
  | 0, _ => rfl
  | k + 1, s => by
    rw [List.range'_succ, List.map_cons]
    have e : askV { voteN 3 v with fr := me, to := ((s + 1 : Nat) : Int) } = none := by
      unfold askV
      rw [if_neg (fun hh => by have := hh.2; simp only at this; omega)]
    unfold asks
    rw [List.filterMap_cons_none e]
    exact asks_from me v k (s + 1)
theorem asks_vote {R : Rp} (h : 1 ≤ R.n) (v : VoteD) : asks (allN R (voteN 3 v)) = [v] := by
  unfold allN
  rw [show R.n.toNat = (R.n.toNat - 1) + 1 by omega, List.range_eq_range', List.range'_succ, List.map_cons]
  have e : askV { voteN 3 v with fr := R.me, to := ((0 : Nat) : Int) } = some v := by
    unfold askV
    rw [if_pos ⟨rfl, rfl⟩]
    rfl
  unfold asks
  rw [List.filterMap_cons_some e]
  have := asks_from R.me v (R.n.toNat - 1) 0
  unfold asks at this
  rw [this]
theorem asks_flat {R : Rp} (h : 1 ≤ R.n) (l : List VoteD) : asks (l.flatMap fun v => allN R (voteN 3 v)) = l := by
  induction l with
  | nil => rfl
  | cons v l ih => rw [List.flatMap_cons, asks_append, asks_vote h, ih]; rfl

/-! ### one a slot -/
def keyV (v : VoteD) : Int × Int × Int := (v.slot, v.a, v.n)
theorem cmpB_eq {a n b m : Int} : cmpB a n b m = 0 ↔ (a = b ∧ n = m) := by
  unfold cmpB cmpI
  (repeat' split) <;> omega
theorem cmpB_lt {a n b m : Int} : cmpB a n b m < 0 ↔ (a < b ∨ (a = b ∧ n < m)) := by
  unfold cmpB cmpI
  (repeat' split) <;> omega
theorem cmpB_gt {a n b m : Int} : 0 < cmpB a n b m ↔ (b < a ∨ (a = b ∧ m < n)) := by
  unfold cmpB cmpI
  (repeat' split) <;> omega
/-- Below its ballot; or by it, it leads, and below its next slot. -/
def AskI (P : Pro) (l : List VoteD) : Prop := (P.does = 1 → P.filled = false) ∧ ∀ v ∈ l, cmpB v.a v.n P.ba P.bn < 0 ∨ (v.a = P.ba ∧ v.n = P.bn ∧ P.does ≠ 1 ∧ v.slot < P.next)
theorem AskI.up {P P' : Pro} {l : List VoteD} (h : AskI P l) (h1 : P'.does = 1 → P'.filled = false) (hb : 0 < cmpB P'.ba P'.bn P.ba P.bn) : AskI P' l := by
  refine ⟨h1, fun v hv => .inl ?_⟩
  rw [cmpB_gt] at hb
  rw [cmpB_lt]
  rcases h.2 v hv with h2 | ⟨h2, h3, _⟩
  · rw [cmpB_lt] at h2
    omega
  · omega
theorem AskI.same {P P' : Pro} {l : List VoteD} (h : AskI P l) (e1 : P'.ba = P.ba) (e2 : P'.bn = P.bn) (h1 : P'.does = 1 → P'.filled = false) (h2 : P.does ≠ 1 → P'.does ≠ 1) (h3 : P.next ≤ P'.next) : AskI P' l := by
  refine ⟨h1, fun v hv => ?_⟩
  rw [e1, e2]
  rcases h.2 v hv with h4 | ⟨h4, h5, h6, h7⟩
  · exact .inl h4
  · exact .inr ⟨h4, h5, h2 h6, by omega⟩
theorem step_up (P : Pro) (l : List VoteD) (a n : Int) (h : AskI P l) : AskI (P.step a n).1 l := by
  unfold Pro.step
  split
  · exact h
  · rename_i hc
    simp only [not_or] at hc
    refine h.up (fun hh => ?_) ?_
    · exact absurd hh (by show (0 : Int) ≠ 1; omega)
    · show 0 < cmpB a n P.ba P.bn
      omega
theorem maxBy_ge : ∀ (l : List (Int × Int)) (m : Int × Int), 0 ≤ cmpBB (maxBy cmpBB l m) m ∧ ∀ x ∈ l, 0 ≤ cmpBB (maxBy cmpBB l m) x
  | [], m => ⟨by show 0 ≤ cmpB m.1 m.2 m.1 m.2; rw [cmpB_ge]; omega, by simp⟩
  | r :: l, m => by
    obtain ⟨h1, h2⟩ := maxBy_ge l (if 0 < cmpBB r m then r else m)
    simp only [maxBy]
    unfold cmpBB at h1 h2 ⊢
    simp only [cmpB_ge] at h1 h2 ⊢
    by_cases hc : 0 < cmpB r.1 r.2 m.1 m.2
    · rw [if_pos hc] at h1 h2 ⊢
      rw [cmpB_gt] at hc
      refine ⟨by omega, fun x hx => ?_⟩
      rcases List.mem_cons.1 hx with rfl | hx
      · omega
      · exact h2 x hx
    · rw [if_neg hc] at h1 h2 ⊢
      rw [cmpB_gt] at hc
      refine ⟨by omega, fun x hx => ?_⟩
      rcases List.mem_cons.1 hx with rfl | hx
      · omega
      · exact h2 x hx
theorem lead_up (P : Pro) (l : List VoteD) (a n fr : Int) (h : AskI P l) : AskI (P.lead a n fr).1 l := by
  unfold Pro.lead
  split
  · exact h
  split
  · exact h
  rename_i hc hd
  simp only [not_or, Bool.not_eq_false] at hc
  have hv := validB_iff.1 hc.1
  obtain ⟨g1, g2⟩ := maxBy_ge [(P.ba, P.bn)] (a, n)
  have g3 := g2 (P.ba, P.bn) (by simp)
  unfold cmpBB at g1 g3
  rw [cmpB_ge] at g1 g3
  refine h.up (fun _ => rfl) ?_
  show 0 < cmpB (nextB (maxL [(a, n), (P.ba, P.bn)]).1 P.me).1 (nextB (maxL [(a, n), (P.ba, P.bn)]).1 P.me).2 P.ba P.bn
  rw [cmpB_gt]
  have hm : maxL [(a, n), (P.ba, P.bn)] = maxBy cmpBB [(P.ba, P.bn)] (a, n) := rfl
  rw [hm] at hd ⊢
  have g4 : P.ba ≤ (maxBy cmpBB [(P.ba, P.bn)] (a, n)).1 ∧ a ≤ (maxBy cmpBB [(P.ba, P.bn)] (a, n)).1 := by
    simp only at g1 g3
    constructor
    · rcases g3 with g | g
      · exact Int.le_of_lt g
      · exact Int.le_of_eq g.1.symm
    · rcases g1 with g | g
      · exact Int.le_of_lt g
      · exact Int.le_of_eq g.1.symm
  clear g1 g3 g2
  obtain ⟨x, hx⟩ : ∃ x, x = maxBy cmpBB [(P.ba, P.bn)] (a, n) := ⟨_, rfl⟩
  rw [← hx] at hd g4 ⊢
  unfold nextB
  rw [if_neg (by omega)]
  left
  show P.ba < _ + 1
  omega
theorem count_next (P : Pro) (v : VoteD) : P.next ≤ (P.count v).next := by
  unfold Pro.count
  split
  · split
    · show P.next ≤ (if v.slot + 1 > P.next then v.slot + 1 else P.next)
      split <;> omega
    · show P.next ≤ (if v.slot + 1 > P.next then v.slot + 1 else P.next)
      split <;> omega
  · exact Int.le_refl _
theorem counts_next : ∀ (l : List VoteD) (P : Pro), P.next ≤ (l.foldl Pro.count P).next
  | [], _ => Int.le_refl _
  | v :: l, P => Int.le_trans (count_next P v) (counts_next l _)
theorem filledL_mem (P : Pro) : ∀ (k : Nat) (s : Int) (v : VoteD), v ∈ filledL P s k → v.a = P.ba ∧ v.n = P.bn ∧ s ≤ v.slot ∧ v.slot < s + k
  | 0, _, _, h => by cases h
  | k + 1, s, v, h => by
    simp only [filledL, List.mem_cons] at h
    rcases h with rfl | h
    · exact ⟨rfl, rfl, Int.le_refl _, by show s < s + ((k + 1 : Nat) : Int); omega⟩
    · obtain ⟨h1, h2, h3, h4⟩ := filledL_mem P k (s + 1) v h
      exact ⟨h1, h2, by omega, by omega⟩
theorem filledL_nodup (P : Pro) : ∀ (k : Nat) (s : Int), ((filledL P s k).map keyV).Nodup
  | 0, _ => List.nodup_nil
  | k + 1, s => by
    simp only [filledL, List.map_cons, List.nodup_cons]
    refine ⟨fun hm => ?_, filledL_nodup P k (s + 1)⟩
    obtain ⟨v, hv, he⟩ := List.mem_map.1 hm
    have := filledL_mem P k (s + 1) v hv
    simp only [keyV, Prod.mk.injEq] at he
    omega

/-- What was asked for, and how it stands. -/
def AskJ (P : Pro) (l : List VoteD) : Prop := AskI P l ∧ (l.map keyV).Nodup
theorem AskJ.add {P P' : Pro} {l m : List VoteD} (h : AskJ P l) (h1 : AskI P' l) (h2 : AskI P' m) (h3 : (m.map keyV).Nodup) (h4 : ∀ v ∈ l, ∀ w ∈ m, keyV v ≠ keyV w) : AskJ P' (l ++ m) := by
  refine ⟨⟨h1.1, fun v hv => (List.mem_append.1 hv).elim (h1.2 v) (h2.2 v)⟩, ?_⟩
  rw [List.map_append, List.nodup_append]
  refine ⟨h.2, h3, fun a ha b hb => ?_⟩
  obtain ⟨v, hv, rfl⟩ := List.mem_map.1 ha
  obtain ⟨w, hw, rfl⟩ := List.mem_map.1 hb
  exact h4 v hv w hw
theorem AskJ.none {P P' : Pro} {l : List VoteD} {m : List NoteD} (h : AskJ P l) (h1 : AskI P' l) (hm : asks m = []) : AskJ P' (l ++ asks m) := by
  rw [hm, List.append_nil]
  exact ⟨h1, h.2⟩
theorem promise_same {P : Pro} {l : List VoteD} (fr a n : Int) (vs : List VoteD) (h : AskI P l) : AskI (P.promise fr a n vs).1 l := by
  have hk := counts_keep vs (P.setWho fr.toNat)
  have hx := counts_next vs (P.setWho fr.toNat)
  unfold Pro.promise
  split
  · exact h
  rename_i hc
  simp only [not_or] at hc
  have hd : P.does = 1 := Classical.byContradiction fun hh => hc.1 hh
  split
  · refine h.same hk.2.2.2.2.2.1 hk.2.2.2.2.2.2.1 (fun _ => ?_) (fun hh => absurd hd hh) hx
    rw [hk.2.2.2.2.2.2.2]
    exact h.1 hd
  · refine h.same hk.2.2.2.2.2.1 hk.2.2.2.2.2.2.1 (fun hh => ?_) (fun hh => absurd hd hh) hx
    exact absurd hh (by show (2 : Int) ≠ 1; omega)
theorem promise_new {P : Pro} {l : List VoteD} {fr a n : Int} {vs : List VoteD} (h : AskI P l) (ht : (P.promise fr a n vs).2 = true) :
    (P.promise fr a n vs).1.filled = false ∧ ∀ v ∈ l, cmpB v.a v.n (P.promise fr a n vs).1.ba (P.promise fr a n vs).1.bn < 0 := by
  have hk := counts_keep vs (P.setWho fr.toNat)
  unfold Pro.promise at ht ⊢
  split at ht
  · cases ht
  rename_i hc
  rw [if_neg hc]
  simp only [not_or] at hc
  have hd : P.does = 1 := Classical.byContradiction fun hh => hc.1 hh
  split at ht
  · cases ht
  rename_i hc2
  rw [if_neg hc2]
  refine ⟨hk.2.2.2.2.2.2.2.trans (h.1 hd), fun v hv => ?_⟩
  show cmpB v.a v.n (List.foldl Pro.count (P.setWho fr.toNat) vs).ba (List.foldl Pro.count (P.setWho fr.toNat) vs).bn < 0
  rw [hk.2.2.2.2.2.1, hk.2.2.2.2.2.2.1]
  exact (h.2 v hv).resolve_right fun hh => hh.2.2.1 hd

theorem ask_deed {R : Rp} {l : List VoteD} (ho : R.ok) (h : AskJ R.P l) (d : DeedR) : AskJ (R.deed d).1.P (l ++ asks (R.deed d).2) := by
  have hq := quorumI_ne ho.1.1
  rw [ho.2.1] at hq
  unfold Rp.deed
  split
  · unfold Rp.lead
    split
    · exact h.none h.1 rfl
    · exact h.none (lead_up _ _ _ _ _ h.1) (asks_all_none (by simp [prepN]))
  split
  · unfold Rp.propose
    split
    · exact h.none h.1 rfl
    · rename_i hc
      have he : (R.P.propose d.text).2 = 0 := Classical.byContradiction hc
      show AskJ (R.P.propose d.text).1 (l ++ asks (allN R (voteN 3 (R.P.proposeV d.text))))
      rw [asks_vote hq.1]
      have hv : R.P.proposeV d.text = ⟨R.P.next, R.P.ba, R.P.bn, d.text⟩ := by unfold Pro.proposeV; rw [if_pos he]
      have hp : (R.P.propose d.text).1 = R.P.setNext (R.P.next + 1) ∧ R.P.does = 2 := by
        unfold Pro.propose at he ⊢
        split at he
        · exact absurd he (by simp)
        split at he
        · exact absurd he (by simp)
        split at he
        · exact absurd he (by simp)
        · rename_i a1 a2 a3
          rw [if_neg a1, if_neg a2, if_neg a3]
          exact ⟨rfl, Classical.byContradiction fun hh => a3 hh⟩
      rw [hv, hp.1]
      have hd := hp.2
      have hs : AskI (R.P.setNext (R.P.next + 1)) l := h.1.same rfl rfl (fun hh => by rw [show (R.P.setNext (R.P.next + 1)).does = R.P.does from rfl, hd] at hh; omega) (fun hh => hh) (by show R.P.next ≤ R.P.next + 1; omega)
      refine h.add hs ⟨hs.1, fun v hv => ?_⟩ (by simp) fun v hv w hw => ?_
      · simp only [List.mem_singleton] at hv
        subst hv
        refine .inr ⟨rfl, rfl, ?_, ?_⟩
        · show R.P.does ≠ 1; omega
        · show R.P.next < R.P.next + 1; omega
      · simp only [List.mem_singleton] at hw
        subst hw
        intro he
        simp only [keyV, Prod.mk.injEq] at he
        rcases h.1.2 v hv with h4 | ⟨_, _, _, h4⟩
        · rw [cmpB_lt] at h4; omega
        · omega
  split
  · unfold Rp.take
    split
    · exact h.none h.1 rfl
    split
    · unfold Rp.prepare
      split
      · exact h.none (step_up _ _ _ _ h.1) rfl
      split
      · exact h.none (step_up _ _ _ _ h.1) rfl
      · exact h.none (step_up _ _ _ _ h.1) (asks_none fun y hy => by simp only [List.mem_singleton] at hy; subst hy; simp)
    split
    · unfold Rp.promise
      have hp := promise_same d.note.fr d.note.ba d.note.bn d.note.votes h.1
      split
      · exact h.none hp rfl
      split
      · exact h.none hp rfl
      rename_i hc _
      have ht : (R.P.promise d.note.fr d.note.ba d.note.bn d.note.votes).2 = true := by simpa using hc
      have hw := promise_new h.1 ht
      have hdo := promise_does ht
      have hok := ho.1.promise d.note.fr d.note.ba d.note.bn d.note.votes
      obtain ⟨Q, hQ⟩ : ∃ Q, Q = (R.P.promise d.note.fr d.note.ba d.note.bn d.note.votes).1 := ⟨_, rfl⟩
      simp only [← hQ] at hp hw hdo hok ⊢
      show AskJ (Q.setFilled true) (l ++ asks ((Q.fill (endP Q)).flatMap fun v => allN R (voteN 3 v)))
      rw [asks_flat hq.1]
      have he := endP_bd hok
      have hs : AskI (Q.setFilled true) l := hp.same rfl rfl (fun hh => by rw [show (Q.setFilled true).does = Q.does from rfl, hdo.1] at hh; omega) (fun hh => hh) (Int.le_refl _)
      refine h.add hs ⟨hs.1, fun v hv => ?_⟩ (filledL_nodup Q _ _) fun v hv w hw2 => ?_
      · have := filledL_mem Q _ _ v hv
        refine .inr ⟨this.1, this.2.1, ?_, ?_⟩
        · show Q.does ≠ 1; omega
        · show v.slot < Q.next; omega
      · have := filledL_mem Q _ _ w hw2
        have h5 := hw.2 v hv
        rw [cmpB_lt] at h5
        intro he
        simp only [keyV, Prod.mk.injEq] at he
        omega
    split
    · unfold Rp.accept
      split
      · exact h.none (step_up _ _ _ _ h.1) (asks_all_none (by simp [voteN]))
      · exact h.none (step_up _ _ _ _ h.1) rfl
    split
    · exact h.none h.1 rfl
    split
    · unfold Rp.tell
      split
      · exact h.none h.1 rfl
      split
      · exact h.none h.1 rfl
      · exact h.none h.1 (asks_none fun y hy => by simp only [List.mem_singleton] at hy; subst hy; simp)
    split <;> exact h.none h.1 rfl
  split
  · unfold Rp.ask
    split
    · exact h.none h.1 (asks_none fun y hy => by simp only [List.mem_singleton] at hy; subst hy; simp [askN])
    · exact h.none h.1 rfl
  · exact h.none h.1 rfl
end Go.Proofs.YtpbbjfighohokaaI
namespace Go.Proofs.YtpbbjfighohokaaI
set_option linter.unusedSimpArgs false
set_option linter.unusedVariables false
open Go

/-- hurdle/troop.New -/
abbrev n_troop_New : Nat := 311
/-- hurdle/troop.New$1 -/
abbrev n_troop_New_F1 : Nat := 312
/-- (*hurdle/troop.Troop).Lead -/
abbrev n_troop_Troop_Lead : Nat := 313
/-- (*hurdle/troop.Troop).Propose -/
abbrev n_troop_Troop_Propose : Nat := 314
/-- (*hurdle/troop.Troop).Ask -/
abbrev n_troop_Troop_Ask : Nat := 315
/-- (*hurdle/troop.Troop).Deliver -/
abbrev n_troop_Troop_Deliver : Nat := 316
/-- (*hurdle/troop.Troop).Drop -/
abbrev n_troop_Troop_Drop : Nat := 317
/-- (*hurdle/troop.Troop).Double -/
abbrev n_troop_Troop_Double : Nat := 318
/-- (*hurdle/troop.Troop).Crash -/
abbrev n_troop_Troop_Crash : Nat := 319
/-- (*hurdle/troop.Troop).Log -/
abbrev n_troop_Troop_Log : Nat := 320
/-- (*hurdle/troop.Troop).Waiting -/
abbrev n_troop_Troop_Waiting : Nat := 321
/-- (*hurdle/troop.Troop).Leads -/
abbrev n_troop_Troop_Leads : Nat := 322
/-- (*hurdle/troop.Troop).node -/
abbrev n_troop_Troop_node : Nat := 323
/-- (*hurdle/troop.way).put -/
abbrev n_troop_way_put : Nat := 324
/-- (*hurdle/troop.way).at -/
abbrev n_troop_way_at : Nat := 325
/-- (*hurdle/troop.way).out -/
abbrev n_troop_way_out : Nat := 326
/-- slices.Delete[[]hurdle/api.Note,hurdle/api.Note] -/
abbrev n_slices_Delete_api_Note_api_Note : Nat := 327
/-- hurdle/troop.New -/
def c_troop_New (F : Nat → FuncId) (Ty : Nat → TypeId) : IFunc := ⟨33, [.tmp 2],
 .seq (.ops [⟨some 2, .move (.const (.pointer none)), none⟩])
 (.seq (.seq (.ops [⟨some 5, .move (.tmp 0), none⟩,
 ⟨some 6, .call (F 288) [.tmp 5, .const (.int .i64 0)], none⟩,
 ⟨some 7, .eqNil 0 false (.tmp 6), none⟩])
 (.cond (.tmp 7)
 (.seq (.ops [⟨some 2, .move (.const (.pointer none)), none⟩])
 (.ret))
 (.skip)))
 (.seq (.ops [⟨some 8, .build [.slice none 0 0, .slice none 0 0, .nilFunc] [], none⟩,
 ⟨some 9, .box (.tmp 8), none⟩,
 ⟨some 3, .alloc [.pointer none], none⟩,
 ⟨none, .store 1 (.tmp 3) (.tmp 9), none⟩])
 (.seq (.seq (.ops [⟨some 10, .move (.tmp 0), none⟩,
 ⟨some 11, .move (.const (.int .i64 0)), none⟩])
 (.block 0 (.loop (.seq (.ops [⟨some 12, .bin .lss (.tmp 11) (.tmp 10), none⟩])
 (.seq (.cond (.tmp 12)
 (.skip)
 (.exit 0))
 (.seq (.block 1 (.seq (.ops [⟨some 13, .move (.tmp 11), none⟩,
 ⟨some 4, .move (.tmp 13), none⟩])
 (.draw [(⟨some 14, .load1 (.tmp 3), none⟩, []),
 (⟨some 15, .load1 (.tmp 3), none⟩, []),
 (⟨some 16, .nilCheck (.tmp 15), none⟩, []),
 (⟨some 17, .fieldAddr 0 (.tmp 16), none⟩, []),
 (⟨some 18, .load1 (.tmp 17), none⟩, []),
 (⟨some 19, .move (.tmp 0), none⟩, []),
 (⟨some 20, .move (.tmp 4), none⟩, []),
 (⟨some 21, .call (F 288) [.tmp 19, .tmp 20], none⟩, [⟨some 14, .load1 (.tmp 3), none⟩, ⟨some 15, .load1 (.tmp 3), none⟩, ⟨some 18, .load1 (.tmp 17), none⟩]),
 (⟨some 22, .buildSlice 1 [.pointer none] [((0, 1), .tmp 21)], none⟩, []),
 (⟨some 23, .append 1 8 (.tmp 18) (.tmp 22), none⟩, [⟨some 14, .load1 (.tmp 3), none⟩]),
 (⟨some 24, .nilCheck (.tmp 14), none⟩, []),
 (⟨some 25, .fieldAddr 0 (.tmp 24), none⟩, []),
 (⟨none, .store 1 (.tmp 25) (.tmp 23), none⟩, [])])))
 (.ops [⟨some 26, .bin .add (.tmp 11) (.const (.int .i64 1)), none⟩,
 ⟨some 11, .move (.tmp 26), none⟩])))))))
 (.seq (.ops [⟨some 27, .load1 (.tmp 3), none⟩,
 ⟨some 28, .mkFunc (F 312) [] [.tmp 3], none⟩,
 ⟨some 29, .nilCheck (.tmp 27), none⟩,
 ⟨some 30, .fieldAddr 1 (.tmp 29), none⟩,
 ⟨some 31, .fieldAddr 1 (.tmp 30), none⟩,
 ⟨none, .store 1 (.tmp 31) (.tmp 28), none⟩])
 (.seq (.ops [⟨some 32, .load1 (.tmp 3), none⟩,
 ⟨some 2, .move (.tmp 32), none⟩])
 (.ret))))))⟩
/-- hurdle/troop.New$1 -/
def c_troop_New_F1 (F : Nat → FuncId) (Ty : Nat → TypeId) : IFunc := ⟨17, [],
 .seq (.ops [⟨some 2, .box (.tmp 0), none⟩])
 (.draw [(⟨some 3, .load1 (.tmp 1), none⟩, []),
 (⟨some 4, .nilCheck (.tmp 3), none⟩, []),
 (⟨some 5, .fieldAddr 1 (.tmp 4), none⟩, []),
 (⟨some 6, .load1 (.tmp 1), none⟩, []),
 (⟨some 7, .nilCheck (.tmp 6), none⟩, []),
 (⟨some 8, .fieldAddr 0 (.tmp 7), none⟩, []),
 (⟨some 9, .load1 (.tmp 8), none⟩, []),
 (⟨some 10, .fieldAddr 2 (.tmp 2), none⟩, []),
 (⟨some 11, .load1 (.tmp 10), none⟩, []),
 (⟨some 12, .idxSl 1 (.tmp 9) (.tmp 11), none⟩, []),
 (⟨some 13, .load1 (.tmp 12), none⟩, []),
 (⟨some 14, .loadN 7 (.tmp 2), none⟩, []),
 (⟨some 15, .call (F 289) [.tmp 13, .tmp 14], none⟩, [⟨some 3, .load1 (.tmp 1), none⟩]),
 (⟨some 16, .call (F 324) [.tmp 5, .tmp 15], none⟩, [])])⟩
/-- (*hurdle/troop.Troop).Lead -/
def c_troop_Troop_Lead (F : Nat → FuncId) (Ty : Nat → TypeId) : IFunc := ⟨21, [.tmp 4],
 .seq (.ops [⟨some 4, .move (.const (.bool false)), none⟩])
 (.seq (.seq (.ops [⟨some 5, .move (.tmp 0), none⟩,
 ⟨some 6, .move (.tmp 1), none⟩,
 ⟨some 7, .call (F 323) [.tmp 5, .tmp 6], none⟩,
 ⟨some 8, .un .not (.tmp 7), none⟩])
 (.cond (.tmp 8)
 (.seq (.ops [⟨some 4, .move (.const (.bool false)), none⟩])
 (.ret))
 (.skip)))
 (.seq (.draw [(⟨some 9, .move (.tmp 0), none⟩, []),
 (⟨some 10, .nilCheck (.tmp 9), none⟩, []),
 (⟨some 11, .fieldAddr 1 (.tmp 10), none⟩, []),
 (⟨some 12, .move (.tmp 0), none⟩, []),
 (⟨some 13, .nilCheck (.tmp 12), none⟩, []),
 (⟨some 14, .fieldAddr 0 (.tmp 13), none⟩, []),
 (⟨some 15, .load1 (.tmp 14), none⟩, []),
 (⟨some 16, .move (.tmp 1), none⟩, []),
 (⟨some 17, .idxSl 1 (.tmp 15) (.tmp 16), none⟩, []),
 (⟨some 18, .load1 (.tmp 17), none⟩, []),
 (⟨some 19, .call (F 291) [.tmp 18], none⟩, []),
 (⟨some 20, .call (F 324) [.tmp 11, .tmp 19], none⟩, [])])
 (.seq (.ops [⟨some 4, .move (.const (.bool true)), none⟩])
 (.ret))))⟩
/-- (*hurdle/troop.Troop).Propose -/
def c_troop_Troop_Propose (F : Nat → FuncId) (Ty : Nat → TypeId) : IFunc := ⟨33, [.tmp 6],
 .seq (.ops [⟨some 6, .move (.const (.int .i64 0)), none⟩])
 (.seq (.seq (.ops [⟨some 9, .move (.tmp 0), none⟩,
 ⟨some 10, .move (.tmp 1), none⟩,
 ⟨some 11, .call (F 323) [.tmp 9, .tmp 10], none⟩,
 ⟨some 12, .un .not (.tmp 11), none⟩])
 (.cond (.tmp 12)
 (.seq (.ops [⟨some 6, .move (.const (.int .i64 1)), none⟩])
 (.ret))
 (.skip)))
 (.seq (.ops [⟨some 14, .move (.tmp 0), none⟩,
 ⟨some 15, .nilCheck (.tmp 14), none⟩,
 ⟨some 16, .fieldAddr 0 (.tmp 15), none⟩,
 ⟨some 17, .load1 (.tmp 16), none⟩,
 ⟨some 18, .move (.tmp 1), none⟩,
 ⟨some 19, .idxSl 1 (.tmp 17) (.tmp 18), none⟩,
 ⟨some 20, .load1 (.tmp 19), none⟩,
 ⟨some 21, .move (.tmp 2), none⟩,
 ⟨some 22, .call (F 292) [.tmp 20, .tmp 21], none⟩,
 ⟨some 13, .move (.tmp 22), none⟩,
 ⟨some 23, .extract (.tmp 13) 0, none⟩,
 ⟨some 24, .extract (.tmp 13) 1, none⟩,
 ⟨some 7, .move (.tmp 23), none⟩,
 ⟨some 8, .move (.tmp 24), none⟩])
 (.seq (.seq (.ops [⟨some 25, .move (.tmp 8), none⟩,
 ⟨some 26, .bin .eql (.tmp 25) (.const (.int .i64 0)), none⟩])
 (.cond (.tmp 26)
 (.ops [⟨some 27, .move (.tmp 0), none⟩,
 ⟨some 28, .nilCheck (.tmp 27), none⟩,
 ⟨some 29, .fieldAddr 1 (.tmp 28), none⟩,
 ⟨some 30, .move (.tmp 7), none⟩,
 ⟨some 31, .call (F 324) [.tmp 29, .tmp 30], none⟩])
 (.skip)))
 (.seq (.ops [⟨some 32, .move (.tmp 8), none⟩,
 ⟨some 6, .move (.tmp 32), none⟩])
 (.ret)))))⟩
/-- (*hurdle/troop.Troop).Ask -/
def c_troop_Troop_Ask (F : Nat → FuncId) (Ty : Nat → TypeId) : IFunc := ⟨30, [.tmp 6],
 .seq (.ops [⟨some 6, .move (.const (.bool false)), none⟩])
 (.seq (.seq (.ops [⟨some 7, .move (.tmp 0), none⟩,
 ⟨some 8, .move (.tmp 1), none⟩,
 ⟨some 9, .call (F 323) [.tmp 7, .tmp 8], none⟩,
 ⟨some 10, .un .not (.tmp 9), none⟩,
 ⟨some 11, .move (.tmp 10), none⟩,
 ⟨some 12, .move (.tmp 0), some (11, false)⟩,
 ⟨some 13, .move (.tmp 2), some (11, false)⟩,
 ⟨some 14, .call (F 323) [.tmp 12, .tmp 13], some (11, false)⟩,
 ⟨some 15, .un .not (.tmp 14), some (11, false)⟩,
 ⟨some 16, .pick (.tmp 11) (.const (.bool true)) (.tmp 15), none⟩])
 (.cond (.tmp 16)
 (.seq (.ops [⟨some 6, .move (.const (.bool false)), none⟩])
 (.ret))
 (.skip)))
 (.seq (.draw [(⟨some 17, .move (.tmp 0), none⟩, []),
 (⟨some 18, .nilCheck (.tmp 17), none⟩, []),
 (⟨some 19, .fieldAddr 1 (.tmp 18), none⟩, []),
 (⟨some 20, .move (.tmp 0), none⟩, []),
 (⟨some 21, .nilCheck (.tmp 20), none⟩, []),
 (⟨some 22, .fieldAddr 0 (.tmp 21), none⟩, []),
 (⟨some 23, .load1 (.tmp 22), none⟩, []),
 (⟨some 24, .move (.tmp 1), none⟩, []),
 (⟨some 25, .idxSl 1 (.tmp 23) (.tmp 24), none⟩, []),
 (⟨some 26, .load1 (.tmp 25), none⟩, []),
 (⟨some 27, .move (.tmp 2), none⟩, []),
 (⟨some 28, .call (F 293) [.tmp 26, .tmp 27], none⟩, []),
 (⟨some 29, .call (F 324) [.tmp 19, .tmp 28], none⟩, [])])
 (.seq (.ops [⟨some 6, .move (.const (.bool true)), none⟩])
 (.ret))))⟩
/-- (*hurdle/troop.Troop).Deliver -/
def c_troop_Troop_Deliver (F : Nat → FuncId) (Ty : Nat → TypeId) : IFunc := ⟨26, [.tmp 4],
 .seq (.ops [⟨some 4, .move (.const (.bool false)), none⟩])
 (.seq (.seq (.ops [⟨some 7, .move (.tmp 0), none⟩,
 ⟨some 8, .eqNil 0 false (.tmp 7), none⟩])
 (.cond (.tmp 8)
 (.seq (.ops [⟨some 4, .move (.const (.bool false)), none⟩])
 (.ret))
 (.skip)))
 (.seq (.ops [⟨some 10, .move (.tmp 0), none⟩,
 ⟨some 11, .nilCheck (.tmp 10), none⟩,
 ⟨some 12, .fieldAddr 1 (.tmp 11), none⟩,
 ⟨some 13, .move (.tmp 1), none⟩,
 ⟨some 14, .call (F 326) [.tmp 12, .tmp 13], none⟩,
 ⟨some 9, .move (.tmp 14), none⟩,
 ⟨some 15, .extract (.tmp 9) 0, none⟩,
 ⟨some 16, .extract (.tmp 9) 1, none⟩,
 ⟨some 5, .alloc [.int .i64 0, .int .i64 0, .int .i64 0, .int .i64 0, .int .i64 0, .int .i64 0, .slice none 0 0], none⟩,
 ⟨none, .store 7 (.tmp 5) (.tmp 15), none⟩,
 ⟨some 6, .move (.tmp 16), none⟩])
 (.seq (.seq (.ops [⟨some 17, .move (.tmp 6), none⟩])
 (.cond (.tmp 17)
 (.draw [(⟨some 18, .move (.tmp 0), none⟩, []),
 (⟨some 19, .nilCheck (.tmp 18), none⟩, []),
 (⟨some 20, .fieldAddr 1 (.tmp 19), none⟩, []),
 (⟨some 21, .fieldAddr 1 (.tmp 20), none⟩, []),
 (⟨some 22, .load1 (.tmp 21), none⟩, []),
 (⟨some 23, .loadN 7 (.tmp 5), none⟩, []),
 (⟨some 24, .callDyn (.tmp 22) [.tmp 23], none⟩, [])])
 (.skip)))
 (.seq (.ops [⟨some 25, .move (.tmp 6), none⟩,
 ⟨some 4, .move (.tmp 25), none⟩])
 (.ret)))))⟩
/-- (*hurdle/troop.Troop).Drop -/
def c_troop_Troop_Drop (F : Nat → FuncId) (Ty : Nat → TypeId) : IFunc := ⟨18, [.tmp 4],
 .seq (.ops [⟨some 4, .move (.const (.bool false)), none⟩])
 (.seq (.seq (.ops [⟨some 7, .move (.tmp 0), none⟩,
 ⟨some 8, .eqNil 0 false (.tmp 7), none⟩])
 (.cond (.tmp 8)
 (.seq (.ops [⟨some 4, .move (.const (.bool false)), none⟩])
 (.ret))
 (.skip)))
 (.seq (.ops [⟨some 10, .move (.tmp 0), none⟩,
 ⟨some 11, .nilCheck (.tmp 10), none⟩,
 ⟨some 12, .fieldAddr 1 (.tmp 11), none⟩,
 ⟨some 13, .move (.tmp 1), none⟩,
 ⟨some 14, .call (F 326) [.tmp 12, .tmp 13], none⟩,
 ⟨some 9, .move (.tmp 14), none⟩,
 ⟨some 15, .extract (.tmp 9) 0, none⟩,
 ⟨some 16, .extract (.tmp 9) 1, none⟩,
 ⟨some 5, .alloc [.int .i64 0, .int .i64 0, .int .i64 0, .int .i64 0, .int .i64 0, .int .i64 0, .slice none 0 0], none⟩,
 ⟨none, .store 7 (.tmp 5) (.tmp 15), none⟩,
 ⟨some 6, .move (.tmp 16), none⟩])
 (.seq (.ops [⟨some 17, .move (.tmp 6), none⟩,
 ⟨some 4, .move (.tmp 17), none⟩])
 (.ret))))⟩
/-- (*hurdle/troop.Troop).Double -/
def c_troop_Troop_Double (F : Nat → FuncId) (Ty : Nat → TypeId) : IFunc := ⟨41, [.tmp 4],
 .seq (.ops [⟨some 4, .move (.const (.bool false)), none⟩])
 (.seq (.seq (.ops [⟨some 7, .move (.tmp 0), none⟩,
 ⟨some 8, .eqNil 0 false (.tmp 7), none⟩,
 ⟨some 9, .move (.tmp 8), none⟩,
 ⟨some 10, .move (.tmp 0), some (9, false)⟩,
 ⟨some 11, .nilCheck (.tmp 10), some (9, false)⟩,
 ⟨some 12, .fieldAddr 1 (.tmp 11), some (9, false)⟩,
 ⟨some 13, .fieldAddr 0 (.tmp 12), some (9, false)⟩,
 ⟨some 14, .load1 (.tmp 13), some (9, false)⟩,
 ⟨some 15, .lenSl (.tmp 14), some (9, false)⟩,
 ⟨some 16, .bin .geq (.tmp 15) (.const (.int .i64 1024)), some (9, false)⟩,
 ⟨some 17, .pick (.tmp 9) (.const (.bool true)) (.tmp 16), none⟩])
 (.cond (.tmp 17)
 (.seq (.ops [⟨some 4, .move (.const (.bool false)), none⟩])
 (.ret))
 (.skip)))
 (.seq (.ops [⟨some 19, .move (.tmp 0), none⟩,
 ⟨some 20, .nilCheck (.tmp 19), none⟩,
 ⟨some 21, .fieldAddr 1 (.tmp 20), none⟩,
 ⟨some 22, .move (.tmp 1), none⟩,
 ⟨some 23, .call (F 325) [.tmp 21, .tmp 22], none⟩,
 ⟨some 18, .move (.tmp 23), none⟩,
 ⟨some 24, .extract (.tmp 18) 0, none⟩,
 ⟨some 25, .extract (.tmp 18) 1, none⟩,
 ⟨some 5, .move (.tmp 24), none⟩,
 ⟨some 6, .move (.tmp 25), none⟩])
 (.seq (.seq (.ops [⟨some 26, .move (.tmp 6), none⟩])
 (.cond (.tmp 26)
 (.draw [(⟨some 27, .move (.tmp 0), none⟩, []),
 (⟨some 28, .nilCheck (.tmp 27), none⟩, []),
 (⟨some 29, .fieldAddr 1 (.tmp 28), none⟩, []),
 (⟨some 30, .move (.tmp 0), none⟩, []),
 (⟨some 31, .nilCheck (.tmp 30), none⟩, []),
 (⟨some 32, .fieldAddr 1 (.tmp 31), none⟩, []),
 (⟨some 33, .fieldAddr 0 (.tmp 32), none⟩, []),
 (⟨some 34, .load1 (.tmp 33), none⟩, []),
 (⟨some 35, .move (.tmp 5), none⟩, []),
 (⟨some 36, .move (.tmp 5), none⟩, []),
 (⟨some 37, .bin .add (.tmp 36) (.const (.int .i64 1)), none⟩, []),
 (⟨some 38, .sliceSl 7 (.tmp 34) (some (.tmp 35)) (some (.tmp 37)) none, none⟩, []),
 (⟨some 39, .call (F 324) [.tmp 29, .tmp 38], none⟩, [])])
 (.skip)))
 (.seq (.ops [⟨some 40, .move (.tmp 6), none⟩,
 ⟨some 4, .move (.tmp 40), none⟩])
 (.ret)))))⟩
/-- (*hurdle/troop.Troop).Crash -/
def c_troop_Troop_Crash (F : Nat → FuncId) (Ty : Nat → TypeId) : IFunc := ⟨17, [.tmp 4],
 .seq (.ops [⟨some 4, .move (.const (.bool false)), none⟩])
 (.seq (.seq (.ops [⟨some 5, .move (.tmp 0), none⟩,
 ⟨some 6, .move (.tmp 1), none⟩,
 ⟨some 7, .call (F 323) [.tmp 5, .tmp 6], none⟩,
 ⟨some 8, .un .not (.tmp 7), none⟩])
 (.cond (.tmp 8)
 (.seq (.ops [⟨some 4, .move (.const (.bool false)), none⟩])
 (.ret))
 (.skip)))
 (.seq (.ops [⟨some 9, .move (.tmp 0), none⟩,
 ⟨some 10, .nilCheck (.tmp 9), none⟩,
 ⟨some 11, .fieldAddr 0 (.tmp 10), none⟩,
 ⟨some 12, .load1 (.tmp 11), none⟩,
 ⟨some 13, .move (.tmp 1), none⟩,
 ⟨some 14, .idxSl 1 (.tmp 12) (.tmp 13), none⟩,
 ⟨some 15, .load1 (.tmp 14), none⟩,
 ⟨some 16, .call (F 290) [.tmp 15], none⟩])
 (.seq (.ops [⟨some 4, .move (.const (.bool true)), none⟩])
 (.ret))))⟩
/-- (*hurdle/troop.Troop).Log -/
def c_troop_Troop_Log (F : Nat → FuncId) (Ty : Nat → TypeId) : IFunc := ⟨17, [.tmp 4],
 .seq (.ops [⟨some 4, .move (.const (.slice none 0 0)), none⟩])
 (.seq (.seq (.ops [⟨some 5, .move (.tmp 0), none⟩,
 ⟨some 6, .move (.tmp 1), none⟩,
 ⟨some 7, .call (F 323) [.tmp 5, .tmp 6], none⟩,
 ⟨some 8, .un .not (.tmp 7), none⟩])
 (.cond (.tmp 8)
 (.seq (.ops [⟨some 4, .move (.const (.slice none 0 0)), none⟩])
 (.ret))
 (.skip)))
 (.seq (.ops [⟨some 9, .move (.tmp 0), none⟩,
 ⟨some 10, .nilCheck (.tmp 9), none⟩,
 ⟨some 11, .fieldAddr 0 (.tmp 10), none⟩,
 ⟨some 12, .load1 (.tmp 11), none⟩,
 ⟨some 13, .move (.tmp 1), none⟩,
 ⟨some 14, .idxSl 1 (.tmp 12) (.tmp 13), none⟩,
 ⟨some 15, .load1 (.tmp 14), none⟩,
 ⟨some 16, .call (F 295) [.tmp 15], none⟩,
 ⟨some 4, .move (.tmp 16), none⟩])
 (.ret)))⟩
/-- (*hurdle/troop.Troop).Waiting -/
def c_troop_Troop_Waiting (F : Nat → FuncId) (Ty : Nat → TypeId) : IFunc := ⟨11, [.tmp 2],
 .seq (.ops [⟨some 2, .move (.const (.int .i64 0)), none⟩])
 (.seq (.seq (.ops [⟨some 3, .move (.tmp 0), none⟩,
 ⟨some 4, .eqNil 0 false (.tmp 3), none⟩])
 (.cond (.tmp 4)
 (.seq (.ops [⟨some 2, .move (.const (.int .i64 0)), none⟩])
 (.ret))
 (.skip)))
 (.seq (.ops [⟨some 5, .move (.tmp 0), none⟩,
 ⟨some 6, .nilCheck (.tmp 5), none⟩,
 ⟨some 7, .fieldAddr 1 (.tmp 6), none⟩,
 ⟨some 8, .fieldAddr 0 (.tmp 7), none⟩,
 ⟨some 9, .load1 (.tmp 8), none⟩,
 ⟨some 10, .lenSl (.tmp 9), none⟩,
 ⟨some 2, .move (.tmp 10), none⟩])
 (.ret)))⟩
/-- (*hurdle/troop.Troop).Leads -/
def c_troop_Troop_Leads (F : Nat → FuncId) (Ty : Nat → TypeId) : IFunc := ⟨18, [.tmp 4],
 .seq (.ops [⟨some 4, .move (.const (.bool false)), none⟩])
 (.seq (.ops [⟨some 5, .move (.tmp 0), none⟩,
 ⟨some 6, .move (.tmp 1), none⟩,
 ⟨some 7, .call (F 323) [.tmp 5, .tmp 6], none⟩,
 ⟨some 8, .move (.tmp 7), none⟩,
 ⟨some 9, .move (.tmp 0), some (8, true)⟩,
 ⟨some 10, .nilCheck (.tmp 9), some (8, true)⟩,
 ⟨some 11, .fieldAddr 0 (.tmp 10), some (8, true)⟩,
 ⟨some 12, .load1 (.tmp 11), some (8, true)⟩,
 ⟨some 13, .move (.tmp 1), some (8, true)⟩,
 ⟨some 14, .idxSl 1 (.tmp 12) (.tmp 13), some (8, true)⟩,
 ⟨some 15, .load1 (.tmp 14), some (8, true)⟩,
 ⟨some 16, .call (F 297) [.tmp 15], some (8, true)⟩,
 ⟨some 17, .pick (.tmp 8) (.tmp 16) (.const (.bool false)), none⟩,
 ⟨some 4, .move (.tmp 17), none⟩])
 (.ret))⟩
/-- (*hurdle/troop.Troop).node -/
def c_troop_Troop_node (F : Nat → FuncId) (Ty : Nat → TypeId) : IFunc := ⟨20, [.tmp 4],
 .seq (.ops [⟨some 4, .move (.const (.bool false)), none⟩])
 (.seq (.ops [⟨some 5, .move (.tmp 0), none⟩,
 ⟨some 6, .eqNil 0 true (.tmp 5), none⟩,
 ⟨some 7, .move (.tmp 6), none⟩,
 ⟨some 8, .move (.tmp 1), some (7, true)⟩,
 ⟨some 9, .bin .geq (.tmp 8) (.const (.int .i64 0)), some (7, true)⟩,
 ⟨some 10, .pick (.tmp 7) (.tmp 9) (.const (.bool false)), none⟩,
 ⟨some 11, .move (.tmp 10), none⟩,
 ⟨some 12, .move (.tmp 1), some (11, true)⟩,
 ⟨some 13, .move (.tmp 0), some (11, true)⟩,
 ⟨some 14, .nilCheck (.tmp 13), some (11, true)⟩,
 ⟨some 15, .fieldAddr 0 (.tmp 14), some (11, true)⟩,
 ⟨some 16, .load1 (.tmp 15), some (11, true)⟩,
 ⟨some 17, .lenSl (.tmp 16), some (11, true)⟩,
 ⟨some 18, .bin .lss (.tmp 12) (.tmp 17), some (11, true)⟩,
 ⟨some 19, .pick (.tmp 11) (.tmp 18) (.const (.bool false)), none⟩,
 ⟨some 4, .move (.tmp 19), none⟩])
 (.ret))⟩
/-- (*hurdle/troop.way).put -/
def c_troop_way_put (F : Nat → FuncId) (Ty : Nat → TypeId) : IFunc := ⟨23, [],
 .draw [(⟨some 4, .move (.tmp 0), none⟩, []),
 (⟨some 5, .move (.tmp 0), none⟩, []),
 (⟨some 6, .nilCheck (.tmp 5), none⟩, []),
 (⟨some 7, .fieldAddr 0 (.tmp 6), none⟩, []),
 (⟨some 8, .load1 (.tmp 7), none⟩, []),
 (⟨some 9, .move (.tmp 1), none⟩, []),
 (⟨some 10, .move (.tmp 1), none⟩, []),
 (⟨some 11, .lenSl (.tmp 10), none⟩, []),
 (⟨some 12, .move (.tmp 0), none⟩, []),
 (⟨some 13, .nilCheck (.tmp 12), none⟩, []),
 (⟨some 14, .fieldAddr 0 (.tmp 13), none⟩, []),
 (⟨some 15, .load1 (.tmp 14), none⟩, []),
 (⟨some 16, .lenSl (.tmp 15), none⟩, []),
 (⟨some 17, .bin .sub (.const (.int .i64 1024)) (.tmp 16), none⟩, []),
 (⟨some 18, .mxn false (.tmp 11) (.tmp 17), none⟩, []),
 (⟨some 19, .sliceSl 7 (.tmp 9) none (some (.tmp 18)) none, none⟩, []),
 (⟨some 20, .append 7 72 (.tmp 8) (.tmp 19), none⟩, []),
 (⟨some 21, .nilCheck (.tmp 4), none⟩, []),
 (⟨some 22, .fieldAddr 0 (.tmp 21), none⟩, []),
 (⟨none, .store 1 (.tmp 22) (.tmp 20), none⟩, [])]⟩
/-- (*hurdle/troop.way).at -/
def c_troop_way_at (F : Nat → FuncId) (Ty : Nat → TypeId) : IFunc := ⟨21, [.tmp 4, .tmp 5],
 .seq (.ops [⟨some 4, .move (.const (.int .i64 0)), none⟩,
 ⟨some 5, .move (.const (.bool false)), none⟩])
 (.seq (.ops [⟨some 7, .move (.tmp 0), none⟩,
 ⟨some 8, .nilCheck (.tmp 7), none⟩,
 ⟨some 9, .fieldAddr 0 (.tmp 8), none⟩,
 ⟨some 10, .load1 (.tmp 9), none⟩,
 ⟨some 11, .lenSl (.tmp 10), none⟩,
 ⟨some 6, .move (.tmp 11), none⟩])
 (.seq (.seq (.ops [⟨some 12, .move (.tmp 6), none⟩,
 ⟨some 13, .bin .eql (.tmp 12) (.const (.int .i64 0)), none⟩])
 (.cond (.tmp 13)
 (.seq (.ops [⟨some 4, .move (.const (.int .i64 0)), none⟩,
 ⟨some 5, .move (.const (.bool false)), none⟩])
 (.ret))
 (.skip)))
 (.seq (.ops [⟨some 14, .move (.tmp 1), none⟩,
 ⟨some 15, .move (.tmp 6), none⟩,
 ⟨some 16, .bin .rem (.tmp 14) (.tmp 15), none⟩,
 ⟨some 17, .move (.tmp 6), none⟩,
 ⟨some 18, .bin .add (.tmp 16) (.tmp 17), none⟩,
 ⟨some 19, .move (.tmp 6), none⟩,
 ⟨some 20, .bin .rem (.tmp 18) (.tmp 19), none⟩,
 ⟨some 4, .move (.tmp 20), none⟩,
 ⟨some 5, .move (.const (.bool true)), none⟩])
 (.ret))))⟩
/-- (*hurdle/troop.way).out -/
def c_troop_way_out (F : Nat → FuncId) (Ty : Nat → TypeId) : IFunc := ⟨37, [.cellN 4 7, .tmp 5],
 .seq (.ops [⟨some 4, .alloc [.int .i64 0, .int .i64 0, .int .i64 0, .int .i64 0, .int .i64 0, .int .i64 0, .slice none 0 0], none⟩,
 ⟨some 5, .move (.const (.bool false)), none⟩])
 (.seq (.ops [⟨some 10, .move (.tmp 0), none⟩,
 ⟨some 11, .move (.tmp 1), none⟩,
 ⟨some 12, .call (F 325) [.tmp 10, .tmp 11], none⟩,
 ⟨some 9, .move (.tmp 12), none⟩,
 ⟨some 13, .extract (.tmp 9) 0, none⟩,
 ⟨some 14, .extract (.tmp 9) 1, none⟩,
 ⟨some 6, .move (.tmp 13), none⟩,
 ⟨some 7, .move (.tmp 14), none⟩])
 (.seq (.seq (.ops [⟨some 15, .move (.tmp 7), none⟩,
 ⟨some 16, .un .not (.tmp 15), none⟩])
 (.cond (.tmp 16)
 (.seq (.ops [⟨some 17, .build [.int .i64 0, .int .i64 0, .int .i64 0, .int .i64 0, .int .i64 0, .int .i64 0, .slice none 0 0] [], none⟩,
 ⟨none, .store 7 (.tmp 4) (.tmp 17), none⟩,
 ⟨some 5, .move (.const (.bool false)), none⟩])
 (.ret))
 (.skip)))
 (.seq (.ops [⟨some 18, .move (.tmp 0), none⟩,
 ⟨some 19, .nilCheck (.tmp 18), none⟩,
 ⟨some 20, .fieldAddr 0 (.tmp 19), none⟩,
 ⟨some 21, .load1 (.tmp 20), none⟩,
 ⟨some 22, .move (.tmp 6), none⟩,
 ⟨some 23, .idxSl 7 (.tmp 21) (.tmp 22), none⟩,
 ⟨some 24, .loadN 7 (.tmp 23), none⟩,
 ⟨some 8, .alloc [.int .i64 0, .int .i64 0, .int .i64 0, .int .i64 0, .int .i64 0, .int .i64 0, .slice none 0 0], none⟩,
 ⟨none, .store 7 (.tmp 8) (.tmp 24), none⟩])
 (.seq (.ops [⟨some 25, .move (.tmp 0), none⟩,
 ⟨some 26, .move (.tmp 0), none⟩,
 ⟨some 27, .nilCheck (.tmp 26), none⟩,
 ⟨some 28, .fieldAddr 0 (.tmp 27), none⟩,
 ⟨some 29, .load1 (.tmp 28), none⟩,
 ⟨some 30, .move (.tmp 6), none⟩,
 ⟨some 31, .move (.tmp 6), none⟩,
 ⟨some 32, .bin .add (.tmp 31) (.const (.int .i64 1)), none⟩,
 ⟨some 33, .call (F 327) [.tmp 29, .tmp 30, .tmp 32], none⟩,
 ⟨some 34, .nilCheck (.tmp 25), none⟩,
 ⟨some 35, .fieldAddr 0 (.tmp 34), none⟩,
 ⟨none, .store 1 (.tmp 35) (.tmp 33), none⟩])
 (.seq (.ops [⟨some 36, .loadN 7 (.tmp 8), none⟩,
 ⟨none, .store 7 (.tmp 4) (.tmp 36), none⟩,
 ⟨some 5, .move (.const (.bool true)), none⟩])
 (.ret))))))⟩
/-- slices.Delete[[]hurdle/api.Note,hurdle/api.Note] -/
def c_slices_Delete_api_Note_api_Note (F : Nat → FuncId) (Ty : Nat → TypeId) : IFunc := ⟨33, [.tmp 6],
 .seq (.ops [⟨some 6, .move (.const (.slice none 0 0)), none⟩])
 (.seq (.ops [⟨some 8, .move (.tmp 0), none⟩,
 ⟨some 9, .move (.tmp 1), none⟩,
 ⟨some 10, .move (.tmp 2), none⟩,
 ⟨some 11, .move (.tmp 0), none⟩,
 ⟨some 12, .lenSl (.tmp 11), none⟩,
 ⟨some 13, .sliceSl 7 (.tmp 8) (some (.tmp 9)) (some (.tmp 10)) (some (.tmp 12)), none⟩])
 (.seq (.seq (.ops [⟨some 14, .move (.tmp 1), none⟩,
 ⟨some 15, .move (.tmp 2), none⟩,
 ⟨some 16, .bin .eql (.tmp 14) (.tmp 15), none⟩])
 (.cond (.tmp 16)
 (.seq (.ops [⟨some 17, .move (.tmp 0), none⟩,
 ⟨some 6, .move (.tmp 17), none⟩])
 (.ret))
 (.skip)))
 (.seq (.ops [⟨some 18, .move (.tmp 0), none⟩,
 ⟨some 19, .lenSl (.tmp 18), none⟩,
 ⟨some 7, .move (.tmp 19), none⟩])
 (.seq (.draw [(⟨some 20, .move (.tmp 0), none⟩, []),
 (⟨some 21, .move (.tmp 1), none⟩, []),
 (⟨some 22, .sliceSl 7 (.tmp 20) none (some (.tmp 21)) none, none⟩, []),
 (⟨some 23, .move (.tmp 0), none⟩, []),
 (⟨some 24, .move (.tmp 2), none⟩, []),
 (⟨some 25, .sliceSl 7 (.tmp 23) (some (.tmp 24)) none none, none⟩, []),
 (⟨some 26, .append 7 72 (.tmp 22) (.tmp 25), none⟩, []),
 (⟨some 0, .move (.tmp 26), none⟩, [])])
 (.seq (.ops [⟨some 27, .move (.tmp 0), none⟩,
 ⟨some 28, .move (.tmp 0), none⟩,
 ⟨some 29, .lenSl (.tmp 28), none⟩,
 ⟨some 30, .move (.tmp 7), none⟩,
 ⟨some 31, .sliceSl 7 (.tmp 27) (some (.tmp 29)) (some (.tmp 30)) none, none⟩,
 ⟨none, .clearSl [.int .i64 0, .int .i64 0, .int .i64 0, .int .i64 0, .int .i64 0, .int .i64 0, .slice none 0 0] (.tmp 31), none⟩])
 (.seq (.ops [⟨some 32, .move (.tmp 0), none⟩,
 ⟨some 6, .move (.tmp 32), none⟩])
 (.ret)))))))⟩
/-- A context has these functions. -/
structure HasTroop (c : Ctx) : Prop where
 troop_New : c.IP (c.F 311) = some (c_troop_New c.F c.Ty)
 troop_New_F1 : c.IP (c.F 312) = some (c_troop_New_F1 c.F c.Ty)
 troop_Troop_Lead : c.IP (c.F 313) = some (c_troop_Troop_Lead c.F c.Ty)
 troop_Troop_Propose : c.IP (c.F 314) = some (c_troop_Troop_Propose c.F c.Ty)
 troop_Troop_Ask : c.IP (c.F 315) = some (c_troop_Troop_Ask c.F c.Ty)
 troop_Troop_Deliver : c.IP (c.F 316) = some (c_troop_Troop_Deliver c.F c.Ty)
 troop_Troop_Drop : c.IP (c.F 317) = some (c_troop_Troop_Drop c.F c.Ty)
 troop_Troop_Double : c.IP (c.F 318) = some (c_troop_Troop_Double c.F c.Ty)
 troop_Troop_Crash : c.IP (c.F 319) = some (c_troop_Troop_Crash c.F c.Ty)
 troop_Troop_Log : c.IP (c.F 320) = some (c_troop_Troop_Log c.F c.Ty)
 troop_Troop_Waiting : c.IP (c.F 321) = some (c_troop_Troop_Waiting c.F c.Ty)
 troop_Troop_Leads : c.IP (c.F 322) = some (c_troop_Troop_Leads c.F c.Ty)
 troop_Troop_node : c.IP (c.F 323) = some (c_troop_Troop_node c.F c.Ty)
 troop_way_put : c.IP (c.F 324) = some (c_troop_way_put c.F c.Ty)
 troop_way_at : c.IP (c.F 325) = some (c_troop_way_at c.F c.Ty)
 troop_way_out : c.IP (c.F 326) = some (c_troop_way_out c.F c.Ty)
 slices_Delete_api_Note_api_Note : c.IP (c.F 327) = some (c_slices_Delete_api_Note_api_Note c.F c.Ty)

end Go.Proofs.YtpbbjfighohokaaI
namespace Go.Proofs.YtpbbjfighohokaaI
attribute [local simp] J0 J1 J2 J3 J4 J5 J6 J7 J8 J9 Ja Jb Jc Jd Je Jf Jg Jh Ji Jj Jk Jl Jm Jn Jo Jp Jq Jr Js Jt Ju Jv Jw Jx Jy Jz JA JB JC JD JE JF JG JH JI JJ JK JL JM JN JO JP JQ JR JS stillI IOp.kind JT JU JV JW JX JY JZ Y0 Y1 Y2 Y3 Y4 Y5 Y6 Y7 Y8 Y9 Ya Yb Yc Yd Ye Yf Yg Yh Yi Yj Yk Yl Ym Yn Yo Yp Yq ial Yr Ys Yt Yu Yv Yw Yx Yy ires iresL ires1 Yz YA YB YC YD YE bin2 YF YG YH YI YJ YK YL YM YN YO YP YQ YR YS YT YU un1 shOk eqL eq1 fillL putAt IHeap.load1 IHeap.loadL IHeap.storeL YV YW YX YY YZ B0 B1 B2 B3 B4 B5 B6 B7 B8 B9 Ba Bb Bc Bd Be Bf Bg Bh Bi Bj Bk Bl Bm Bn Bo Bp
set_option linter.unusedSimpArgs false
set_option linter.unusedVariables false
open Go

/-- An own slice, with room behind it maybe. -/
def VN (H : IHeap) (q : Nat) (u : Value) (rows : List (List Value)) : Prop := (rows = [] ∧ u = .slice none 0 0) ∨ ∃ cs, q < H.next ∧ u = .slice (some ⟨q, 0, none⟩) rows.length (UNK + 7) ∧ H.get q = some (.cells cs false) ∧ cs.take (rows.length * 7) = rows.flatten ∧ rows.length * 7 ≤ cs.length
theorem VN.upd {H H' : IHeap} {S : List Nat} {q : Nat} {u : Value} {rows : List (List Value)} (h : VN H q u rows) (hu : IHeap.upd S H H') (hq : q ∉ S) : VN H' q u rows := by
  rcases h with h | ⟨cs, a, b, c, d, e⟩
  · exact .inl h
  · exact .inr ⟨cs, Nat.lt_of_lt_of_le a hu.next, b, (hu.get q a hq).trans c, d, e⟩
theorem VN.le {H H' : IHeap} {q : Nat} {u : Value} {rows : List (List Value)} (h : VN H q u rows) (hu : H.le H') : VN H' q u rows := h.upd (hu.upd []) (by simp)
theorem VN.slw {H : IHeap} {q : Nat} {u : Value} {rows : List (List Value)} (h : VN H q u rows) (h4 : ∀ r ∈ rows, r.length = 7) : SlW H 7 u rows := by
  rcases h with ⟨rfl, rfl⟩ | ⟨cs, a, rfl, c, d, e⟩
  · exact SlW.nil H 7
  · refine ⟨⟨_, _, rfl, fun _ => ⟨q, 0, cs, false, rfl, a, c, fun i r hr => ?_⟩⟩, _, _, rfl, .inr ⟨_, _, rfl⟩, .inr ⟨rfl, by simp⟩⟩
    obtain ⟨f1, f2⟩ := flat_row rows 7 i r h4 hr
    have hfl := flat_len rows 7 h4
    refine ⟨h4 r (List.mem_of_getElem? hr), ?_, by omega⟩
    rw [← f1, ← d, Nat.zero_add, List.drop_take, List.take_take, Nat.min_eq_left (by omega)]
theorem VN.lenv {H : IHeap} {q : Nat} {u : Value} {rows : List (List Value)} (h : VN H q u rows) : ∃ a cap, u = .slice a rows.length cap := by
  rcases h with ⟨rfl, rfl⟩ | ⟨cs, _, rfl, _⟩
  · exact ⟨_, _, rfl⟩
  · exact ⟨_, _, rfl⟩

theorem flat_erase (rows : List (List Value)) (i : Nat) : (rows.eraseIdx i).flatten = (rows.take i).flatten ++ (rows.drop (i + 1)).flatten := by
  rw [List.eraseIdx_eq_take_drop_succ, List.flatten_append]
theorem cell_take7 {cs : List Value} {rows : List (List Value)} (h4 : ∀ r ∈ rows, r.length = 7) (h : cs.take (rows.length * 7) = rows.flatten) {i : Nat} (hi : i ≤ rows.length) : cs.take (i * 7) = (rows.take i).flatten := by
  have := congrArg (List.take (i * 7)) h
  have hsp := flat_split rows i
  have hpre : ((rows.take i).flatten).length = i * 7 := by rw [flat_len _ 7 fun r hr => h4 r (List.mem_of_mem_take hr), List.length_take]; omega
  rw [List.take_take, Nat.min_eq_left (by omega), hsp, ← hpre, List.take_left, hpre] at this
  exact this
theorem cell_drop7 {cs : List Value} {rows : List (List Value)} (h4 : ∀ r ∈ rows, r.length = 7) (h : cs.take (rows.length * 7) = rows.flatten) {i : Nat} (hi : i ≤ rows.length) : (cs.drop (i * 7)).take ((rows.length - i) * 7) = (rows.drop i).flatten := by
  have := congrArg (List.drop (i * 7)) h
  have hsp := flat_split rows i
  have hpre : ((rows.take i).flatten).length = i * 7 := by rw [flat_len _ 7 fun r hr => h4 r (List.mem_of_mem_take hr), List.length_take]; omega
  rw [List.drop_take, hsp, ← hpre, List.drop_left, hpre] at this
  rw [← this]
  congr 1; omega

section
variable (c : Ctx) (hc : HasTroop c) {H : IHeap} {K : Value → IHeap → Prop}

include hc in
theorem NDelete_ok {q i : Nat} {u : Value} {rows : List (List Value)} (h : VN H q u rows) (h2 : ∀ r ∈ rows, r.length = 7) (hone : rows.flatten.all one1 = true) (hi : i < rows.length) (hl : rows.length ≤ 1000000)
    (hK : ∀ v H', IHeap.upd [q] H H' → VN H' q v (rows.eraseIdx i) → K v H') :
    c.C (c.F n_slices_Delete_api_Note_api_Note) [u, .int .i64 i, .int .i64 ((i : Int) + 1)] H K := by
  refine c.enter hc.slices_Delete_api_Note_api_Note rfl ?_
  rcases h with ⟨rfl, rfl⟩ | ⟨cs, hq, rfl, gq, hcs, hcl⟩
  · simp at hi
  · obtain ⟨N, hN⟩ : ∃ N, N = rows.length := ⟨_, rfl⟩
    have hcs' := hcs
    rw [← hN] at hcs hcl hi hl ⊢
    have hel : (rows.eraseIdx i).length = N - 1 := by rw [List.length_eraseIdx, if_pos (by omega), hN]
    obtain ⟨m, hm⟩ : ∃ m, m = N - (i + 1) := ⟨_, rfl⟩
    obtain ⟨D, hD⟩ : ∃ D, D = (rows.drop (i + 1)).flatten := ⟨_, rfl⟩
    have hDl : D.length = m * 7 := by rw [hD, flat_len _ 7 fun r hr => h2 r (List.mem_of_mem_drop hr), List.length_drop, hm, hN]
    have hDone : D.all one1 = true := by
      rw [hD, List.all_eq_true]
      intro x hx
      obtain ⟨r, hr, hx⟩ := List.mem_flatten.1 hx
      exact List.all_eq_true.1 hone x (List.mem_flatten.2 ⟨r, List.mem_of_mem_drop hr, hx⟩)
    have hFD : (cs.drop ((i + 1) * 7)).take (m * 7) = D := by
      have := cell_drop7 h2 hcs' (i := i + 1) (by omega)
      rw [← hN, ← hm] at this
      rw [hD, this]
    have hFA : cs.take (i * 7) = (rows.take i).flatten := cell_take7 h2 hcs' (by omega)
    have sQ : ∀ (X : IHeap) (k l : Nat), l ≤ N → sliceI X 7 (some ⟨q, 0, none⟩) N (UNK + 7) k l none = some (.slice (some ⟨q, k * 7, none⟩) (l - k) (UNK + 7)) := by
      intro X k l hk
      unfold sliceI
      rw [if_neg (by omega)]
      simp [hk]
    obtain ⟨x13, s13⟩ : ∃ x, sliceI H 7 (some ⟨q, 0, none⟩) N (UNK + 7) i (i + 1) (some N) = some x := by
      unfold sliceI
      rw [if_neg (by omega)]
      simp only [Option.getD_some, Nat.le_refl, true_or, and_true, true_and]
      rw [if_pos (by omega), if_pos (by unfold UNK; omega)]
      exact ⟨_, rfl⟩
    have s22 : sliceI H 7 (some ⟨q, 0, none⟩) N (UNK + 7) 0 i none = some (.slice (some ⟨q, 0, none⟩) i (UNK + 7)) := by
      have := sQ H 0 i (by omega)
      rwa [Nat.zero_mul, Nat.sub_zero] at this
    have s25 := sQ H (i + 1) N (Nat.le_refl _)
    rw [← hm] at s25
    have fD : firstI H 7 m (.slice (some ⟨q, (i + 1) * 7, none⟩) m (UNK + 7)) = some D := by
      simp only [firstI, IHeap.loadL, gq]
      by_cases hz : m * 7 = 0
      · have : D = [] := List.length_eq_zero_iff.1 (by rw [hDl]; exact hz)
        rw [if_pos hz, this]
      · rw [if_neg hz, if_pos (by omega), hFD]
    obtain ⟨cs1, hcs1⟩ : ∃ c, c = putAt cs (i * 7) D := ⟨_, rfl⟩
    have l1 : cs1.length = cs.length := by rw [hcs1]; exact put_len (by omega)
    have t1 : cs1.take ((N - 1) * 7) = (rows.eraseIdx i).flatten := by
      rw [hcs1, flat_erase, ← hD, ← hFA]
      unfold putAt
      rw [List.append_assoc, ← List.append_assoc, List.take_append_of_le_length (by simp only [List.length_append, List.length_take]; omega), List.take_of_length_le (by simp only [List.length_append, List.length_take]; omega)]
    obtain ⟨Ha, hHa⟩ : ∃ X : IHeap, X = H.set q (.cells cs1 false) := ⟨_, rfl⟩
    have ga : Ha.get q = some (.cells cs1 false) := by rw [hHa, YW, if_pos rfl]
    have ua : IHeap.upd [q] H Ha := by rw [hHa]; exact (IHeap.upd_refl _ _).set (.inr (by simp)) _
    have na : Ha.next = H.next := by rw [hHa]; rfl
    have e1 : i + m = N - 1 := by omega
    -- the append: in place, or of nothing
    obtain ⟨Hb, hab, gb, ub, nb⟩ : ∃ Hb, appendI H 7 72 (.slice (some ⟨q, 0, none⟩) i (UNK + 7)) m D = some (.slice (some ⟨q, 0, none⟩) (N - 1) (UNK + 7), Hb) ∧ Hb.get q = some (.cells cs1 false) ∧ IHeap.upd [q] H Hb ∧ Hb.next = H.next := by
      have f1 : firstI H 7 i (.slice (some ⟨q, 0, none⟩) i (UNK + 7)) = some (cs.take (i * 7)) := by
        simp only [firstI, IHeap.loadL, gq]
        by_cases hz : i * 7 = 0
        · rw [if_pos hz, hz]; rfl
        · rw [if_neg hz, if_pos (by omega), List.drop_zero]
      by_cases hm0 : m = 0
      · have hD0 : D = [] := List.length_eq_zero_iff.1 (by rw [hDl, hm0])
        refine ⟨H, ?_, ?_, IHeap.upd_refl _ _, rfl⟩
        · simp only [appendI]
          rw [if_pos ⟨by omega, by omega, by omega, by omega, by omega⟩, if_pos hm0, if_pos (by unfold UNK; omega), show N - 1 = i by omega]
        · have : cs1 = cs := by rw [hcs1, hD0]; unfold putAt; simp
          rw [this]; exact gq
      · refine ⟨Ha, ?_, ga, ua, na⟩
        simp only [appendI, f1, gq]
        rw [if_pos ⟨by omega, by omega, by omega, by omega, by omega⟩, if_neg hm0, if_neg (by omega), if_neg (by omega), if_pos trivial, if_pos hDone, if_pos (by omega), hHa, hcs1, e1, Nat.zero_add]
    obtain ⟨Z, hZ⟩ : ∃ Z, Z = (Builtin.zeroCells #[Value.int .i64 0, .int .i64 0, .int .i64 0, .int .i64 0, .int .i64 0, .int .i64 0, .slice none 0 0] 1).toList := ⟨_, rfl⟩
    have hZl : Z.length = 7 := by rw [hZ, Array.length_toList, zeroCells_size]; rfl
    have hZone : Z.all one1 = true := by
      rw [hZ, List.all_eq_true]
      intro x hx
      simp only [Builtin.zeroCells, Array.toList_map, List.mem_map] at hx
      obtain ⟨k, _, rfl⟩ := hx
      have : k % 7 = 0 ∨ k % 7 = 1 ∨ k % 7 = 2 ∨ k % 7 = 3 ∨ k % 7 = 4 ∨ k % 7 = 5 ∨ k % 7 = 6 := by omega
      rcases this with h | h | h | h | h | h | h <;> simp [h, one1]
    have s31 : sliceI Hb 7 (some ⟨q, 0, none⟩) (N - 1) (UNK + 7) (N - 1) N none = some (.slice (some ⟨q, (N - 1) * 7, none⟩) 1 (UNK + 7)) := by
      unfold sliceI
      rw [if_neg (by omega)]
      simp only [fitsI, gb, Option.getD_none, Nat.zero_add]
      rw [if_pos ⟨trivial, by omega, .inr (by rw [decide_eq_true_eq]; omega)⟩, show N - (N - 1) = 1 by omega]
    obtain ⟨cs2, hcs2⟩ : ∃ c, c = putAt cs1 ((N - 1) * 7) Z := ⟨_, rfl⟩
    have l2 : cs2.length = cs1.length := by rw [hcs2]; exact put_len (by omega)
    have t2 : cs2.take ((N - 1) * 7) = (rows.eraseIdx i).flatten := by
      rw [hcs2]
      unfold putAt
      rw [List.append_assoc, List.take_append_of_le_length (by rw [List.length_take]; omega), List.take_take, Nat.min_self, t1]
    have st : Hb.storeL q ((N - 1) * 7) Z = some (Hb.set q (.cells cs2 false)) := by
      simp only [IHeap.storeL, gb]
      rw [if_pos ⟨by omega, hZone⟩, hcs2]
    have fo2 : List.take ((N - 1) * 7) cs1 ++ (Z ++ List.drop ((N - 1) * 7 + Z.length) cs1) = cs2 := by rw [hcs2, putAt, List.append_assoc]
    have k2 : (N - 1) * 7 + Z.length ≤ cs1.length := by omega
    have hi1 : i ≤ N := by omega
    have hi2 : i + 1 ≤ N := by omega
    have q1 : (0 : Int) ≤ (i : Int) + 1 := by omega
    have q2 : ((i : Int) + 1).toNat = i + 1 := by omega
    have q3 : ((i : Int) + 1) ≤ (N : Int) := by omega
    have q4 : (i : Int) ≤ (i : Int) + 1 := by omega
    have q5 : N - 1 ≤ N := by omega
    have q6 : ¬ (i : Int) = (i : Int) + 1 := by omega
    simp -implicitDefEqProofs [c_slices_Delete_api_Note_api_Note, boundsI, natI, q1, q2, q3, q4, q5, q6, hi1, hi2, s13, s22, s25, lenOfI, fD, hab, s31, ← hZ, gb, k2, hZone, fo2, -List.all_eq_true]
    exact hK _ _ (ub.set (.inr (by simp)) _) (.inr ⟨cs2, by simp only [YY]; omega, by rw [hel], by rw [YW, if_pos rfl], by rw [hel, t2], by rw [hel]; omega⟩)

end
end Go.Proofs.YtpbbjfighohokaaI
namespace Go.Proofs.YtpbbjfighohokaaI
set_option linter.unusedSimpArgs false
set_option linter.unusedVariables false
open Go

theorem VN.append {H : IHeap} {q : Nat} {u : Value} {rows new : List (List Value)} (h : VN H q u rows) (h7 : ∀ r ∈ rows, r.length = 7) (hnew : ∀ r ∈ new, r.length = 7) (hone : new.flatten.all one1 = true) (hl : rows.length + new.length ≤ 1000000) :
    ∃ v' H' q', appendI H 7 72 u new.length new.flatten = some (v', H') ∧ VN H' q' v' (rows ++ new) ∧ Fr (fun b => b = q) H H' ∧ (q' = q ∨ H.next ≤ q') := by
  have hfl := flat_len new 7 hnew
  have hfr := flat_len rows 7 h7
  by_cases hne : new = []
  · subst hne
    refine ⟨u, H, q, ?_, by simpa using h, Fr.refl _ _, .inl rfl⟩
    rcases h with ⟨rfl, rfl⟩ | ⟨cs, hq, rfl, _⟩
    · simp [appendI]
    · simp only [List.length_nil, List.flatten_nil, appendI]
      rw [if_pos ⟨by simp only [List.length_nil] at hl; omega, by simp only [List.length_nil] at hl; omega, by omega, by omega, by simp⟩, if_pos trivial, if_pos (by unfold UNK; simp only [List.length_nil] at hl; omega)]
  · have hp : new.length ≠ 0 := by simpa using hne
    rcases h with ⟨rfl, rfl⟩ | ⟨cs, hq, rfl, gq, hcs, hcl⟩
    · refine ⟨.slice (some ⟨H.next, 0, none⟩) new.length (UNK + 7), H.alloc (.cells new.flatten false), H.next, ?_, .inr ⟨new.flatten, by simp [YX], by simp, by rw [YV, if_pos rfl], by simp [hfl, List.take_of_length_le], by simp [hfl]⟩, (H.le_alloc _).fr _, .inr (Nat.le_refl _)⟩
      simp only [appendI, List.length_nil] at hl ⊢
      rw [if_pos ⟨by omega, by omega, by omega, by omega, by omega⟩, if_neg hp, if_pos ⟨trivial, trivial⟩]
    · have f1 : firstI H 7 rows.length (.slice (some ⟨q, 0, none⟩) rows.length (UNK + 7)) = some rows.flatten := by
        simp only [firstI, IHeap.loadL, gq]
        by_cases hz : rows.length * 7 = 0
        · have : rows = [] := List.length_eq_zero_iff.1 (by omega)
          rw [if_pos hz, this]; rfl
        · rw [if_neg hz, if_pos (by omega), List.drop_zero, hcs]
      by_cases hfit : 0 + (rows.length + new.length) * 7 ≤ cs.length
      · refine ⟨.slice (some ⟨q, 0, none⟩) (rows.length + new.length) (UNK + 7), H.set q (.cells (putAt cs (0 + rows.length * 7) new.flatten) false), q, ?_, .inr ⟨_, by rw [YY]; exact hq, by rw [List.length_append], by rw [YW, if_pos rfl], ?_, ?_⟩, ?_, .inl rfl⟩
        · simp only [appendI, f1, gq]
          rw [if_pos ⟨by omega, by omega, by omega, by omega, by omega⟩, if_neg hp, if_neg (by unfold UNK; omega), if_neg (by unfold UNK; omega), if_pos trivial, if_pos hone, if_pos hfit]
        · rw [List.flatten_append, ← hcs, List.length_append]
          unfold putAt
          have e1 : (List.take (0 + rows.length * 7) cs ++ new.flatten).length = (rows.length + new.length) * 7 := by rw [List.length_append, List.length_take, hfl]; omega
          rw [List.take_append_of_le_length (by rw [e1]; exact Nat.le_refl _), List.take_of_length_le (by rw [e1]; exact Nat.le_refl _), Nat.zero_add]
        · rw [put_len (by omega), List.length_append]; omega
        · exact (Fr.refl (fun b => b = q) H).set (.inl rfl) _
      · refine ⟨.slice (some ⟨H.next, 0, none⟩) (rows.length + new.length) (UNK + 7), (H.set q .dead).alloc (.cells (rows.flatten ++ new.flatten) false), H.next, ?_, .inr ⟨rows.flatten ++ new.flatten, by simp [YX, YY], by rw [List.length_append], by rw [YV, YY, if_pos rfl], ?_, ?_⟩, ?_, .inr (Nat.le_refl _)⟩
        · simp only [appendI, f1, gq]
          rw [if_pos ⟨by omega, by omega, by omega, by omega, by omega⟩, if_neg hp, if_neg (by unfold UNK; omega), if_neg (by unfold UNK; omega), if_pos trivial, if_pos hone, if_neg hfit, if_pos (by omega)]
        · rw [List.flatten_append, List.take_of_length_le (by simp only [List.length_append]; omega)]
        · simp only [List.length_append]; omega
        · refine ⟨by rw [YX, YY]; omega, fun b hb hne => ?_⟩
          rw [YV, YY, if_neg (by omega), YW, if_neg hne]

/-- Notes under way as they lie. -/
def WayD (q : Nat) (D : Nat → Prop) (H : IHeap) (v : Value) (l : List NoteD) : Prop :=
  ∃ us : List Value, us.length = l.length ∧ VN H q v (List.zipWith rowN l us) ∧ (∀ (i : Nat) (x : NoteD) (u : Value), l[i]? = some x → us[i]? = some u → SwD D H 4 u (x.votes.map rowV))
theorem zip_seven' (l : List NoteD) (us : List Value) : ∀ r ∈ List.zipWith rowN l us, r.length = 7 := zip_seven l us
theorem WayD.fr {q : Nat} {D B : Nat → Prop} {H H' : IHeap} {v : Value} {l : List NoteD} (h : WayD q D H v l) (k : Fr B H H') (hq : ¬ B q) (hd : ∀ b, D b → ¬ B b) : WayD q D H' v l := by
  obtain ⟨us, h1, h2, h3⟩ := h
  refine ⟨us, h1, ?_, fun i x u a b => (h3 i x u a b).fr k hd⟩
  rcases h2 with h2 | ⟨cs, a, b, c, d⟩
  · exact .inl h2
  · exact .inr ⟨cs, Nat.lt_of_lt_of_le a k.next, b, (k.get q a hq).trans c, d⟩
theorem WayD.le {q : Nat} {D : Nat → Prop} {H H' : IHeap} {v : Value} {l : List NoteD} (h : WayD q D H v l) (k : H.le H') : WayD q D H' v l := h.fr (k.fr fun _ => False) (fun h => h) fun _ _ h => h
theorem WayD.len {q : Nat} {D : Nat → Prop} {H : IHeap} {v : Value} {l : List NoteD} (h : WayD q D H v l) : ∃ a cap, v = .slice a l.length cap := by
  obtain ⟨us, h1, h2, _⟩ := h
  obtain ⟨a, cap, e⟩ := h2.lenv
  rw [zip_len h1] at e
  exact ⟨a, cap, e⟩
theorem WayD.weak {q : Nat} {D D' : Nat → Prop} {H : IHeap} {v : Value} {l : List NoteD} (h : WayD q D H v l) (hd : ∀ b, D b → D' b) : WayD q D' H v l := by
  obtain ⟨us, h1, h2, h3⟩ := h
  exact ⟨us, h1, h2, fun i x u a b => (h3 i x u a b).weak hd⟩
theorem WayD.nil (q : Nat) (D : Nat → Prop) (H : IHeap) : WayD q D H (.slice none 0 0) [] := ⟨[], rfl, .inl ⟨rfl, rfl⟩, by simp⟩
theorem WayD.at {q : Nat} {D : Nat → Prop} {H : IHeap} {v : Value} {l : List NoteD} (h : WayD q D H v l) {i : Nat} {x : NoteD} (hi : l[i]? = some x) :
    ∃ cs u, v = .slice (some ⟨q, 0, none⟩) l.length (UNK + 7) ∧ q < H.next ∧ H.get q = some (.cells cs false) ∧ (cs.drop (i * 7)).take 7 = rowN x u ∧ i * 7 + 7 ≤ cs.length ∧ SwD D H 4 u (x.votes.map rowV) := by
  obtain ⟨us, h1, h2, h3⟩ := h
  have hl := (List.getElem?_eq_some_iff.1 hi).1
  have hu : us[i]? = some us[i] := List.getElem?_eq_getElem (by omega)
  have hz : (List.zipWith rowN l us)[i]? = some (rowN x us[i]) := by rw [List.getElem?_zipWith, hi, hu]
  rcases h2 with ⟨e, _⟩ | ⟨cs, a, b, c, d, e⟩
  · rw [e] at hz; simp at hz
  · rw [zip_len h1] at b d e
    have hr := flat_row _ 7 i _ (zip_seven l us) hz
    refine ⟨cs, us[i], b, a, c, ?_, by omega, h3 i x _ hi hu⟩
    rw [← hr.1, ← d, List.drop_take, List.take_take, Nat.min_eq_left (by omega)]
end Go.Proofs.YtpbbjfighohokaaI
namespace Go.Proofs.YtpbbjfighohokaaI
attribute [local simp] J0 J1 J2 J3 J4 J5 J6 J7 J8 J9 Ja Jb Jc Jd Je Jf Jg Jh Ji Jj Jk Jl Jm Jn Jo Jp Jq Jr Js Jt Ju Jv Jw Jx Jy Jz JA JB JC JD JE JF JG JH JI JJ JK JL JM JN JO JP JQ JR JS stillI IOp.kind JT JU JV JW JX JY JZ Y0 Y1 Y2 Y3 Y4 Y5 Y6 Y7 Y8 Y9 Ya Yb Yc Yd Ye Yf Yg Yh Yi Yj Yk Yl Ym Yn Yo Yp Yq ial Yr Ys Yt Yu Yv Yw Yx Yy ires iresL ires1 Yz YA YB YC YD YE bin2 YF YG YH YI YJ YK YL YM YN YO YP YQ YR YS YT YU un1 shOk eqL eq1 fillL putAt IHeap.load1 IHeap.loadL IHeap.storeL YV YW YX YY YZ B0 B1 B2 B3 B4 B5 B6 B7 B8 B9 Ba Bb Bc Bd Be Bf Bg Bh Bi Bj Bk Bl Bm Bn Bo Bp
set_option linter.unusedSimpArgs false
set_option linter.unusedVariables false
open Go

def putN (l m : List NoteD) : List NoteD := l ++ m.take (1024 - l.length)
def atI (i n : Int) : Int := Int.tmod (Int.tmod i n + n) n
/-- Notes that are said: each one's votes in D. -/
def MsD (D : Nat → Prop) (H : IHeap) (u : Value) (m : List NoteD) : Prop :=
  ∃ ws : List Value, ws.length = m.length ∧ SlW H 7 u (List.zipWith rowN m ws) ∧ ∀ (i : Nat) (x : NoteD) (w : Value), m[i]? = some x → ws[i]? = some w → SwD D H 4 w (x.votes.map rowV)
theorem NtsD.ms {D : Nat → Prop} {H : IHeap} {v : Value} {l : List NoteD} (h : NtsD D H v l) : MsD D H v l := by
  obtain ⟨us, h1, h2, h3, _⟩ := h
  exact ⟨us, h1, h2.2, h3⟩
theorem MsD.len {D : Nat → Prop} {H : IHeap} {v : Value} {l : List NoteD} (h : MsD D H v l) : ∃ a cap, v = .slice a l.length cap := by
  obtain ⟨us, h1, h2, _⟩ := h
  obtain ⟨a, cap, e⟩ := h2.len
  rw [zip_len h1] at e
  exact ⟨a, cap, e⟩
section
variable (c : Ctx) (hc : HasTroop c) {H : IHeap} {K : Value → IHeap → Prop} {t q : Nat} {lv wv fv : Value} {l : List NoteD} {D : Nat → Prop}

include hc in
theorem put_ok {m : List NoteD} {u : Value} {D2 : Nat → Prop} (ht : t < H.next) (hg : H.get t = some (.cells [lv, wv, fv] false)) (hw : WayD q D H wv l) (hm : MsD D2 H u m) (hl : l.length ≤ 1024) (hml : m.length ≤ 7168) (hq : q ≠ t)
    (hd : ∀ b, D b → b ≠ t ∧ b ≠ q) (hd2 : ∀ b, D2 b → b ≠ t ∧ b ≠ q)
    (hK : ∀ wv' q' H', Fr (fun b => b = t ∨ b = q) H H' → H'.get t = some (.cells [lv, wv', fv] false) → WayD q' (fun b => D b ∨ D2 b) H' wv' (putN l m) → (q' = q ∨ H.next ≤ q') → K (.tuple #[]) H') :
    c.C (c.F n_troop_way_put) [.pointer (some ⟨t, 1, none⟩), u] H K := by
  refine c.enter hc.troop_way_put rfl ?_
  obtain ⟨wa, wc, hwe⟩ := hw.len
  obtain ⟨ua, uc, hue⟩ := hm.len
  obtain ⟨us, h1, h2, h3⟩ := hw
  obtain ⟨ws, k1, k2, k3⟩ := hm
  obtain ⟨k, hk⟩ : ∃ k : Nat, k = min m.length (1024 - l.length) := ⟨_, rfl⟩
  have hzl := zip_len h1
  have hzm := zip_len k1
  have k2' := k2
  rw [hue] at k2'
  obtain ⟨v', s1, s2⟩ := k2'.cut (by omega) (Nat.zero_le k) (by rw [hzm]; omega)
  have hrow : (List.drop 0 (List.zipWith rowN m ws)).take (k - 0) = List.zipWith rowN (m.take k) (ws.take k) := by
    rw [List.drop_zero, Nat.sub_zero, List.take_zipWith]
  rw [hrow] at s2
  have hkl : (List.zipWith rowN (m.take k) (ws.take k)).length = k := by rw [zip_len (by simp [k1])]; simp; omega
  have f1 := s2.first (by omega)
  rw [hkl] at f1
  obtain ⟨va, vc, hve⟩ := s2.len
  rw [hkl] at hve
  have ho : ∀ x ∈ ws.take k, one1 x = true := by
    intro x hx
    obtain ⟨z, hz⟩ := List.getElem?_of_mem hx
    obtain ⟨e, he⟩ : ∃ e, (m.take k)[z]? = some e := ⟨(m.take k)[z]'(by have := (List.getElem?_eq_some_iff.1 hz).1; simp at this ⊢; omega), List.getElem?_eq_getElem _⟩
    rw [List.getElem?_take] at hz he
    split at hz
    · rename_i hzk
      rw [if_pos hzk] at he
      obtain ⟨xa, xc, hx⟩ := (k3 z e x he hz).2.len
      rw [hx]; rfl
    · cases hz
  obtain ⟨w', H', q', a1, a2, a3, a4⟩ := h2.append (new := List.zipWith rowN (m.take k) (ws.take k)) (zip_seven l us) (zip_seven _ _) (zip_one ho) (by rw [hzl, hkl]; omega)
  rw [hkl, hwe] at a1
  rw [hve] at f1
  rw [hve] at s1
  have hwr : IntKind.i64.wrap (1024 - (l.length : Int)) = 1024 - (l.length : Int) := wrap64 (by omega) (by omega)
  have hmx : (if 1024 - (l.length : Int) < (m.length : Int) then 1024 - (l.length : Int) else (m.length : Int)) = (k : Int) := by split <;> omega
  obtain ⟨xa, xc, hxe⟩ := a2.lenv
  have o2 : one1 w' = true := by rw [hxe]; rfl
  have c2v : w'.cells = #[w'] := by rw [hxe]; rfl
  have g2 := (a3.get t ht (Ne.symm hq)).trans hg
  simp -implicitDefEqProofs [c_troop_way_put, nilOf, hg, hue, hwe, s1, hwr, hmx, boundsI, natI, lenOfI, f1, a1, g2, o2, c2v]
  have hmk : m.take k = m.take (1024 - l.length) := by rw [hk, List.take_eq_take_iff]; omega
  have hq' : q' ≠ t := by rcases a4 with rfl | h <;> omega
  have fS : Fr (fun b => b = t) H' (H'.set t (.cells [lv, w', fv] false)) := (Fr.refl (fun b => b = t) H').set (.inl rfl) _
  have fA : Fr (fun b => b = t ∨ b = q) H (H'.set t (.cells [lv, w', fv] false)) := (a3.weak fun b hb => .inr hb).trans (fS.weak fun b hb => .inl hb) fun b hb => .inl hb
  refine hK w' q' _ fA (by rw [YW, if_pos rfl]) ⟨us ++ ws.take k, ?_, ?_, fun i x u hx hu => ?_⟩ a4
  · unfold putN; rw [List.length_append, List.length_append, h1, ← hmk]; simp [k1]
  · unfold putN
    rw [← hmk, List.zipWith_append h1.symm]
    rcases a2 with a2 | ⟨cs, b1, b2, b3, b4⟩
    · exact .inl a2
    · exact .inr ⟨cs, by rw [YY]; exact b1, b2, by rw [YW, if_neg hq']; exact b3, b4⟩
  · unfold putN at hx
    rw [← hmk] at hx
    by_cases hi : i < l.length
    · rw [List.getElem?_append_left hi] at hx
      rw [List.getElem?_append_left (by omega)] at hu
      exact ((h3 i x u hx hu).fr fA fun b hb e => by rcases e with e | e; exact (hd b hb).1 e; exact (hd b hb).2 e).weak fun b hb => .inl hb
    · rw [List.getElem?_append_right (by omega), List.getElem?_take] at hx
      rw [List.getElem?_append_right (by omega), h1, List.getElem?_take] at hu
      split at hx
      · rename_i hz
        rw [if_pos hz] at hu
        exact ((k3 _ x u hx hu).fr fA fun b hb e => by rcases e with e | e; exact (hd2 b hb).1 e; exact (hd2 b hb).2 e).weak fun b hb => .inr hb
      · cases hx

include hc in
theorem at_ok {i : Int} {wa : Option Addr} {n cap : Nat} (hg : H.get t = some (.cells [lv, .slice wa n cap, fv] false)) (hn : n ≤ 1024) (h0 : n = 0 → K (.tuple #[.int .i64 0, .bool false]) H)
    (h1 : n ≠ 0 → ∀ a : Nat, a < n → (a : Int) = atI i n → K (.tuple #[.int .i64 a, .bool true]) H) :
    c.C (c.F n_troop_way_at) [.pointer (some ⟨t, 1, none⟩), .int .i64 i] H K := by
  refine c.enter hc.troop_way_at rfl ?_
  by_cases hz : n = 0
  · simp -implicitDefEqProofs [c_troop_way_at, nilOf, hg, hz]
    exact h0 hz
  · have hz' : ¬ (n : Int) = 0 := by omega
    have b1 := Int.tmod_lt_of_pos i (b := (n : Int)) (by omega)
    have b2 : -(n : Int) < Int.tmod i n := by
      have := Int.lt_tmod_of_pos i (b := (n : Int)) (by omega)
      exact this
    have hw : IntKind.i64.wrap (Int.tmod i n + n) = Int.tmod i n + n := wrap64 (by omega) (by omega)
    have b3 : 0 ≤ atI i n := by unfold atI; exact Int.tmod_nonneg _ (by omega)
    have b4 : atI i n < n := Int.tmod_lt_of_pos _ (by omega)
    obtain ⟨a, ha⟩ : ∃ a : Nat, (a : Int) = atI i n := ⟨(atI i n).toNat, by omega⟩
    have hk := h1 hz a (by omega) ha
    unfold atI at ha
    simp -implicitDefEqProofs [c_troop_way_at, nilOf, hg, hz, hz', hw, ← ha]
    exact hk

include hc in
theorem out_ok {i : Int} (ht : t < H.next) (hg : H.get t = some (.cells [lv, wv, fv] false)) (hw : WayD q D H wv l) (hl : l.length ≤ 1024) (hq : q ≠ t) (hd : ∀ b, D b → b ≠ t ∧ b ≠ q)
    (h0 : l = [] → ∀ H', H.le H' → K (.tuple #[.agg #[.int .i64 0, .int .i64 0, .int .i64 0, .int .i64 0, .int .i64 0, .int .i64 0, .slice none 0 0], .bool false]) H')
    (h1 : ∀ (a : Nat) (x : NoteD), (a : Int) = atI i l.length → l[a]? = some x → ∀ wv' u H', Fr (fun b => b = t ∨ b = q) H H' → H'.get t = some (.cells [lv, wv', fv] false) → WayD q D H' wv' (l.eraseIdx a) → SwD D H' 4 u (x.votes.map rowV) → K (.tuple #[.agg (rowN x u).toArray, .bool true]) H') :
    c.C (c.F n_troop_way_out) [.pointer (some ⟨t, 1, none⟩), .int .i64 i] H K := by
  refine c.enter hc.troop_way_out rfl ?_
  obtain ⟨wa, wc, hwe⟩ := hw.len
  obtain ⟨H0, hH0⟩ : ∃ X : IHeap, X = H.alloc (.cells [.int .i64 0, .int .i64 0, .int .i64 0, .int .i64 0, .int .i64 0, .int .i64 0, .slice none 0 0] false) := ⟨_, rfl⟩
  have k0 : H.le H0 := by rw [hH0]; exact H.le_alloc _
  have n0 : H0.next = H.next + 1 := by rw [hH0]; rfl
  have g0 := (k0.get t ht).trans hg
  have z0 : H0.get H.next = some (.cells [.int .i64 0, .int .i64 0, .int .i64 0, .int .i64 0, .int .i64 0, .int .i64 0, .slice none 0 0] false) := by rw [hH0, YV, if_pos rfl]
  have g0' := g0
  rw [hwe] at g0'
  simp -implicitDefEqProofs [c_troop_way_out, ← hH0]
  refine call_of (at_ok c hc g0' hl (fun hz => ?_) fun hz a ha hat => ?_)
  · have hl0 : l = [] := List.length_eq_zero_iff.1 hz
    simp -implicitDefEqProofs [z0]
    exact h0 hl0 _ (k0.set (Nat.le_refl _) _)
  · obtain ⟨x, hx⟩ : ∃ x, l[a]? = some x := ⟨l[a], List.getElem?_eq_getElem ha⟩
    obtain ⟨cs, u, e1, q0, e3', e4, e5, e6⟩ := hw.at hx
    have e3 := (k0.get q q0).trans e3'
    simp only [rowN] at e4
    obtain ⟨us, u1, u2, u3⟩ := hw
    obtain ⟨ua, uc, hue⟩ := e6.2.len
    have o1 : one1 u = true := by rw [hue]; rfl
    obtain ⟨H1, hH1⟩ : ∃ X : IHeap, X = (H0.alloc (.cells [.int .i64 0, .int .i64 0, .int .i64 0, .int .i64 0, .int .i64 0, .int .i64 0, .slice none 0 0] false)).set H0.next
      (.cells [.int .i64 x.kind, .int .i64 x.fr, .int .i64 x.to, .int .i64 x.slot, .int .i64 x.ba, .int .i64 x.bn, u] false) := ⟨_, rfl⟩
    have k1 : H0.le H1 := by rw [hH1]; exact (H0.le_alloc _).set (Nat.le_refl _) _
    have n1 : H1.next = H0.next + 1 := by rw [hH1]; rfl
    have r1 : H1.get H0.next = some (.cells [.int .i64 x.kind, .int .i64 x.fr, .int .i64 x.to, .int .i64 x.slot, .int .i64 x.ba, .int .i64 x.bn, u] false) := by rw [hH1, YW, if_pos rfl]
    have wa1 : IntKind.i64.wrap ((a : Int) + 1) = (a : Int) + 1 := wrap64 (by omega) (by omega)
    have ha' : (a : Int) < (l.length : Int) := by omega
    have g1 := (k1.get t (by omega)).trans g0
    rw [e1] at u2
    have hus : ∀ y ∈ us, one1 y = true := by
      intro y hy
      obtain ⟨z, hz⟩ := List.getElem?_of_mem hy
      have hzl : z < l.length := by have := (List.getElem?_eq_some_iff.1 hz).1; omega
      obtain ⟨xa, xc, hx⟩ := (u3 z l[z] y (List.getElem?_eq_getElem hzl) hz).2.len
      rw [hx]; rfl
    simp -implicitDefEqProofs [g0, e1, e3, e4, e5, ha, ha', o1, ← hH1, g1, wa1]
    refine call_of (NDelete_ok c hc ((u2.le k0).le k1) (zip_seven l us) (zip_one hus) (by rw [zip_len u1]; exact ha) (by rw [zip_len u1]; omega) fun w' H2 p2 v2 => ?_)
    have n2 := p2.next
    have g2 := (p2.get t (by omega) (by simp [Ne.symm hq])).trans g1
    have r2 := (p2.get H0.next (by omega) (by simp; omega)).trans r1
    have z2 := (p2.get H.next (by omega) (by simp; omega)).trans ((k1.get H.next (by omega)).trans z0)
    obtain ⟨xa, xc, hxe⟩ := v2.lenv
    have o2 : one1 w' = true := by rw [hxe]; rfl
    have c2v : w'.cells = #[w'] := by rw [hxe]; rfl
    have et : ¬ H0.next = t := by omega
    have et2 : ¬ H.next = t := by omega
    simp -implicitDefEqProofs [g2, r2, z2, o2, c2v, et, et2, o1]
    have fH : Fr (fun b => b = t ∨ b = q) H ((H2.set t (.cells [lv, w', fv] false)).set H.next (.cells [.int .i64 x.kind, .int .i64 x.fr, .int .i64 x.to, .int .i64 x.slot, .int .i64 x.ba, .int .i64 x.bn, u] false)) := by
      refine ⟨by simp only [YY]; omega, fun b hb hne => ?_⟩
      simp only [not_or] at hne
      rw [YW, if_neg (by omega), YW, if_neg hne.1, p2.get b (by omega) (by simp [hne.2]), k1.get b (by omega), k0.get b hb]
    have sw : ∀ (y : NoteD) (w : Value), SwD D H 4 w (y.votes.map rowV) → SwD D ((H2.set t (.cells [lv, w', fv] false)).set H.next (.cells [.int .i64 x.kind, .int .i64 x.fr, .int .i64 x.to, .int .i64 x.slot, .int .i64 x.ba, .int .i64 x.bn, u] false)) 4 w (y.votes.map rowV) := fun y w h =>
      h.fr fH fun b hb e => by rcases e with e | e; exact (hd b hb).1 e; exact (hd b hb).2 e
    have her : (List.zipWith rowN l us).eraseIdx a = List.zipWith rowN (l.eraseIdx a) (us.eraseIdx a) := by
      simp only [List.eraseIdx_eq_take_drop_succ]
      rw [List.zipWith_append (by simp [u1]), List.take_zipWith, List.drop_zipWith]
    refine h1 a x (by rw [hat]) hx w' u _ fH (by rw [YW, if_neg (Ne.symm et2), YW, if_pos rfl]) ⟨us.eraseIdx a, ?_, ?_, fun i y w hy hw => ?_⟩ (sw x u e6)
    · rw [List.length_eraseIdx, List.length_eraseIdx, u1]
    · rw [← her]
      rcases v2 with v2 | ⟨cs2, b1, b2, b3, b4⟩
      · exact .inl v2
      · exact .inr ⟨cs2, by simp only [YY]; exact b1, b2, by rw [YW, if_neg (by omega), YW, if_neg hq]; exact b3, b4⟩
    · rw [List.getElem?_eraseIdx] at hy hw
      split at hy
      · rename_i hlt
        rw [if_pos hlt] at hw
        exact sw y w (u3 i y w hy hw)
      · rename_i hlt
        rw [if_neg hlt] at hw
        exact sw y w (u3 _ y w hy hw)
end
end Go.Proofs.YtpbbjfighohokaaI
namespace Go.Proofs.YtpbbjfighohokaaI
set_option linter.unusedSimpArgs false
set_option linter.unusedVariables false
open Go

structure Tp where
  R : List Rp
  way : List NoteD
def rowPt (p : Nat) : List Value := [.pointer (some ⟨p, 0, none⟩)]
/-- How they stand; w: whose each block is (0 nobody's, 1 the head, 2 the pointers, 3 the box, 4 the way, 5 its votes, 6 + i node i's). -/
structure IsT (w : Nat → Nat) (H : IHeap) (t : Nat) (g : FuncId) (S : Tp) : Prop where
  lt : ∀ b, w b ≠ 0 → b < H.next
  own : w t = 1
  rep : ∃ (lb tb q cap : Nat) (ps : List Nat) (wv : Value), w lb = 2 ∧ w tb = 3 ∧ (w q = 4 ∨ wv = .slice none 0 0) ∧
    H.get t = some (.cells [.slice (some ⟨lb, 0, none⟩) S.R.length cap, wv, .func (.func g) #[] #[.pointer (some ⟨tb, 0, none⟩)]] false) ∧ H.get tb = some (.cells [.pointer (some ⟨t, 0, none⟩)] false) ∧
    ps.length = S.R.length ∧ SlR H 1 (.slice (some ⟨lb, 0, none⟩) S.R.length cap) (ps.map rowPt) ∧ WayD q (fun b => w b = 5) H wv S.way ∧
    ∀ (i p : Nat) (R : Rp), ps[i]? = some p → S.R[i]? = some R → IsR (fun b => w b = 6 + i) H p R
theorem SlR.fr {C : Nat → Prop} {H H' : IHeap} {size b o n cap : Nat} {rows : List (List Value)} (h : SlR H size (.slice (some ⟨b, o, none⟩) n cap) rows) (k : Fr C H H') (hb : ¬ C b) : SlR H' size (.slice (some ⟨b, o, none⟩) n cap) rows := by
  have := (show SlD (fun x => x = b) H size (.slice (some ⟨b, o, none⟩) n cap) rows from ⟨h, fun b' o' n' c' e _ => by simp only [Value.slice.injEq, Option.some.injEq, Addr.mk.injEq] at e; exact e.1.1.symm⟩).fr k fun x hx => by rw [hx]; exact hb
  exact this.1
theorem WayD.fr' {q : Nat} {D B : Nat → Prop} {H H' : IHeap} {l : List NoteD} (h : WayD q D H (.slice none 0 0) l) (k : Fr B H H') (hd : ∀ b, D b → ¬ B b) : WayD q D H' (.slice none 0 0) l := by
  obtain ⟨us, h1, h2, h3⟩ := h
  refine ⟨us, h1, ?_, fun i x u a b => (h3 i x u a b).fr k hd⟩
  rcases h2 with h2 | ⟨cs, a, b, c, d⟩
  · exact .inl h2
  · simp at b
theorem IsT.fr {w : Nat → Nat} {C : Nat → Prop} {H H' : IHeap} {t : Nat} {g : FuncId} {S : Tp} (h : IsT w H t g S) (k : Fr C H H') (hd : ∀ b, w b ≠ 0 → ¬ C b) : IsT w H' t g S := by
  obtain ⟨h1, h2, lb, tb, q, cap, ps, wv, r1, r2, r3, r4, r5, r6, r7, r8, r9⟩ := h
  refine ⟨fun b hb => Nat.lt_of_lt_of_le (h1 b hb) k.next, h2, lb, tb, q, cap, ps, wv, r1, r2, r3, (k.get t (h1 t (by omega)) (hd t (by omega))).trans r4, (k.get tb (h1 tb (by omega)) (hd tb (by omega))).trans r5, r6, r7.fr k (hd lb (by omega)), ?_, fun i p R a b => (r9 i p R a b).fr k fun x hx => hd x (by omega)⟩
  rcases r3 with r3 | r3
  · exact r8.fr k (hd q (by omega)) fun b hb => hd b (by omega)
  · subst r3
    exact r8.fr' k fun b hb => hd b (by omega)
theorem IsT.le {w : Nat → Nat} {H H' : IHeap} {t : Nat} {g : FuncId} {S : Tp} (h : IsT w H t g S) (k : H.le H') : IsT w H' t g S := h.fr (k.fr fun _ => False) fun _ _ h => h
theorem IsT.len {w : Nat → Nat} {H : IHeap} {t : Nat} {g : FuncId} {S : Tp} (h : IsT w H t g S) : ∃ l y z a n, H.get t = some (.cells [.slice (some ⟨l, 0, none⟩) S.R.length n, .slice y S.way.length z, a] false) := by
  obtain ⟨h1, h2, lb, tb, q, cap, ps, wv, r1, r2, r3, r4, r5, r6, r7, r8, r9⟩ := h
  obtain ⟨a, c, e⟩ := r8.len
  rw [e] at r4
  exact ⟨_, _, _, _, _, r4⟩
/-- A node's pointer. -/
theorem IsT.node {w : Nat → Nat} {H : IHeap} {t : Nat} {g : FuncId} {S : Tp} (h : IsT w H t g S) {i : Nat} {R : Rp} (hi : S.R[i]? = some R) :
    ∃ lb cap wv fv p cs ro, H.get t = some (.cells [.slice (some ⟨lb, 0, none⟩) S.R.length cap, wv, fv] false) ∧ H.get lb = some (.cells cs ro) ∧ cs[i]? = some (.pointer (some ⟨p, 0, none⟩)) ∧ i + 1 ≤ cs.length ∧ IsR (fun b => w b = 6 + i) H p R := by
  obtain ⟨h1, h2, lb, tb, q, cap, ps, wv, r1, r2, r3, r4, r5, r6, r7, r8, r9⟩ := h
  have hl := (List.getElem?_eq_some_iff.1 hi).1
  have hp : ps[i]? = some ps[i] := List.getElem?_eq_getElem (by omega)
  obtain ⟨b, o, cap', cs, ro, e, hb, hg, _, hrow, hbd⟩ := r7.at (i := i) (r := rowPt ps[i]) (by rw [List.getElem?_map, hp]; rfl)
  simp only [Value.slice.injEq, Option.some.injEq, Addr.mk.injEq] at e
  obtain ⟨⟨rfl, rfl, -⟩, -⟩ := e
  have e0 := row_at hrow 0 (by omega)
  simp only [rowPt, List.getElem?_cons_zero, Nat.zero_add, Nat.mul_one, Nat.add_zero] at e0
  exact ⟨lb, cap, wv, _, ps[i], cs, ro, r4, hg, e0, by omega, r9 i _ R hp hi⟩

theorem IsR.congr {B B' : Nat → Prop} {H : IHeap} {p : Nat} {R : Rp} (h : IsR B H p R) (k : ∀ b, B' b ↔ B b) : IsR B' H p R := by
  obtain ⟨pa, pp, pl, Xa, Xp, Xl, h1, h2⟩ := h
  exact ⟨pa, pp, pl, Xa, Xp, Xl, h1, fun b => (k b).trans (h2 b)⟩
open Classical in
noncomputable def lab (w : Nat → Nat) (i : Nat) (B' D2 : Nat → Prop) (q' nx b : Nat) : Nat :=
  if B' b then 6 + i else if w b = 6 + i then 0 else if D2 b then 5 else if b = q' ∧ q' < nx then 4 else if w b = 4 then 0 else w b
def Tp.say (S : Tp) (i : Nat) (r : Rp × List NoteD) : Tp := ⟨S.R.set i r.1, putN S.way r.2⟩
/-- From one state to the next: only its own blocks, or new ones. -/
def Tn (w : Nat → Nat) (H : IHeap) (t : Nat) (g : FuncId) (S' : Tp) (H' : IHeap) : Prop := ∃ w', Fr (fun b => w b ≠ 0) H H' ∧ (∀ b, w' b ≠ 0 → w b ≠ 0 ∨ H.next ≤ b) ∧ (∀ b, w b = 5 → w' b = 5) ∧ IsT w' H' t g S'

theorem IsT.next {w : Nat → Nat} {H H1 : IHeap} {t : Nat} {g : FuncId} {S : Tp} {i p : Nat} {R' : Rp} {B' : Nat → Prop} (h : IsT w H t g S) (hi : i < S.R.length) (hp : ∃ lb cap wv fv cs ro, H.get t = some (.cells [.slice (some ⟨lb, 0, none⟩) S.R.length cap, wv, fv] false) ∧ H.get lb = some (.cells cs ro) ∧ cs[i]? = some (.pointer (some ⟨p, 0, none⟩)))
    (f : Fr (fun b => w b = 6 + i) H H1) (hB : ∀ b, B' b → w b = 6 + i ∨ H.next ≤ b) (hr : IsR B' H1 p R') :
    ∃ q lv wv fv, H1.get t = some (.cells [lv, wv, fv] false) ∧ WayD q (fun b => w b = 5) H1 wv S.way ∧ q ≠ t ∧ (∀ b, w b = 5 → b ≠ t ∧ b ≠ q) ∧ (∀ b, H.next ≤ b → b < H1.next → b ≠ t ∧ b ≠ q) ∧
      ∀ (D2 : Nat → Prop) (way' : List NoteD) (wv' : Value) (q' : Nat) (H2 : IHeap), (∀ b, D2 b → H.next ≤ b ∧ b < H1.next ∧ ¬ B' b) → Fr (fun b => b = t ∨ b = q) H1 H2 → H2.get t = some (.cells [lv, wv', fv] false) →
        WayD q' (fun b => w b = 5 ∨ D2 b) H2 wv' way' → (q' = q ∨ H1.next ≤ q') → Tn w H t g ⟨S.R.set i R', way'⟩ H2 := by
  obtain ⟨h1, h2, lb, tb, q0, cap, ps, wv, r1, r2, r3, r4, r5, r6, r7, r8, r9⟩ := h
  obtain ⟨lb', cap', wv', fv', cs, ro, e1, e2, e3⟩ := hp
  rw [r4] at e1
  simp only [Option.some.injEq, IObj.cells.injEq, List.cons.injEq, Value.slice.injEq, Addr.mk.injEq, and_true, true_and] at e1
  obtain ⟨⟨rfl, rfl⟩, rfl, rfl⟩ := e1
  have hps : ps[i]? = some p := by
    have hpi : ps[i]? = some ps[i] := List.getElem?_eq_getElem (by omega)
    obtain ⟨b, o, cap', cs', ro', e, hb, hg, _, hrow, hbd⟩ := r7.at (i := i) (r := rowPt ps[i]) (by rw [List.getElem?_map, hpi]; rfl)
    simp only [Value.slice.injEq, Option.some.injEq, Addr.mk.injEq] at e
    obtain ⟨⟨rfl, rfl, -⟩, -⟩ := e
    have e0 := row_at hrow 0 (by omega)
    rw [e2] at hg
    simp only [Option.some.injEq, IObj.cells.injEq] at hg
    obtain ⟨rfl, rfl⟩ := hg
    simp only [rowPt, List.getElem?_cons_zero, Nat.zero_add, Nat.mul_one, Nat.add_zero] at e0
    rw [e0] at e3
    simp only [Option.some.injEq, Value.pointer.injEq, Addr.mk.injEq, and_true] at e3
    rw [hpi, e3]
  have nf := f.next
  have tl := h1 t (by omega)
  have w8 : ∃ q, WayD q (fun b => w b = 5) H1 wv S.way ∧ q ≠ t ∧ w q ≠ 5 ∧ (w q = 4 ∨ H1.next ≤ q) := by
    rcases r3 with r3 | rfl
    · exact ⟨q0, r8.fr f (by omega) (fun b hb => by omega), fun e => by rw [e] at r3; omega, by omega, .inl r3⟩
    · have hq : w H1.next = 0 := Classical.byContradiction fun hh => by have := h1 _ hh; omega
      refine ⟨H1.next, ?_, by omega, by omega, .inr (Nat.le_refl _)⟩
      have := r8.fr' f (fun b hb => by omega)
      obtain ⟨us, z1, z2, z3⟩ := this
      refine ⟨us, z1, ?_, z3⟩
      rcases z2 with z2 | ⟨_, _, b, _⟩
      · exact .inl z2
      · simp at b
  obtain ⟨q, w1, w2, w3, w4⟩ := w8
  refine ⟨q, _, _, _, (f.get t tl (by omega)).trans r4, w1, w2, fun b hb => ⟨fun e => by rw [e] at hb; omega, fun e => w3 (e ▸ hb)⟩,
    fun b hb hb2 => ⟨by omega, fun e => by rcases w4 with w4 | w4; have := h1 q (by omega); omega; omega⟩, fun D2 way' wv' q' H2 hD f2 g2 wd hq' => ?_⟩
  have n2 := f2.next
  have hB1 := hr.lt
  have hq2 : w q = 4 → q < H.next := fun e => h1 q (by omega)
  have hBq : ¬ B' q := fun hh => by
    rcases hB q hh with z | z
    · rcases w4 with w4 | w4
      · omega
      · have := hB1 q hh; omega
    · rcases w4 with w4 | w4
      · have := hq2 w4; omega
      · have := hB1 q hh; omega
  have hBq' : ¬ B' q' := fun hh => by
    rcases hq' with rfl | z
    · exact hBq hh
    · have := hB1 q' hh; omega
  have hBt : ¬ B' t := fun hh => by rcases hB t hh with z | z <;> omega
  have hold : ∀ b, w b ≠ 0 → w b ≠ 6 + i → ¬ B' b := fun b hb hn hh => by rcases hB b hh with z | z; exact hn z; have := h1 b hb; omega
  have hfr12 : ∀ b, b < H1.next → b ≠ t → b ≠ q → H2.get b = H1.get b := fun b hb x y => f2.get b hb (by simp [x, y])
  obtain ⟨W, hW⟩ : ∃ W, W = lab w i B' D2 q' H2.next := ⟨_, rfl⟩
  have hq'o : ∀ b, w b ≠ 0 → w b ≠ 4 → b ≠ q' := fun b hb hn e => by
    have := h1 b hb
    rcases hq' with rfl | z
    · rcases w4 with w4 | w4
      · rw [e] at hn; exact hn w4
      · omega
    · omega
  have keep : ∀ b, w b ≠ 0 → w b ≠ 6 + i → w b ≠ 4 → W b = w b := fun b a1 a2 a3 => by
    rw [hW]; unfold lab
    have := h1 b a1
    rw [if_neg (hold b a1 a2), if_neg a2, if_neg (fun hd => by have := hD b hd; omega), if_neg (fun e => hq'o b a1 a3 e.1), if_neg a3]
  have other : ∀ (b j : Nat), j ≠ i → (W b = 6 + j ↔ w b = 6 + j) := fun b j hj => by
    rw [hW]; unfold lab
    constructor
    · intro hh
      split at hh
      · omega
      split at hh
      · omega
      split at hh
      · omega
      split at hh
      · omega
      split at hh
      · omega
      · exact hh
    · intro hh
      have := h1 b (by omega)
      rw [if_neg (hold b (by omega) (by omega)), if_neg (by omega), if_neg (fun hd => by have := hD b hd; omega), if_neg (fun e => hq'o b (by omega) (by omega) e.1), if_neg (by omega)]
      exact hh
  have mine : ∀ b, (W b = 6 + i ↔ B' b) := fun b => by
    rw [hW]; unfold lab
    constructor
    · intro hh
      split at hh
      · assumption
      split at hh
      · omega
      split at hh
      · omega
      split at hh
      · omega
      split at hh
      · omega
      · rename_i a1 a2 a3 a4 a5
        exact absurd hh a2
    · intro hh; rw [if_pos hh]
  have five : ∀ b, (W b = 5 ↔ w b = 5 ∨ D2 b) := fun b => by
    rw [hW]; unfold lab
    constructor
    · intro hh
      split at hh
      · omega
      split at hh
      · omega
      split at hh
      · rename_i z; exact .inr z
      split at hh
      · omega
      split at hh
      · omega
      · exact .inl hh
    · rintro (hh | hh)
      · have := h1 b (by omega)
        by_cases hd : D2 b
        · have := hD b hd; omega
        · rw [if_neg (hold b (by omega) (by omega)), if_neg (by omega), if_neg hd, if_neg (fun e => hq'o b (by omega) (by omega) e.1), if_neg (by omega)]
          exact hh
      · have := hD b hh
        have hwb : ¬ w b = 6 + i := fun e => by have := h1 b (by omega); omega
        rw [if_neg this.2.2, if_neg hwb, if_pos hh]
  have fall : Fr (fun b => w b ≠ 0) H H2 := by
    refine ⟨by omega, fun b hb hn => ?_⟩
    have hw0 : w b = 0 := Classical.byContradiction hn
    rw [f2.get b (by omega) (fun e => by rcases e with e | e; rw [e] at hw0; omega; rcases w4 with w4 | w4; rw [e] at hw0; omega; omega), f.get b hb (by omega)]
  have lbn : lb < H.next := h1 lb (by omega)
  have tbn : tb < H.next := h1 tb (by omega)
  have notq : ∀ b, w b ≠ 0 → w b ≠ 4 → b ≠ q := fun b hb hn e => by
    have := h1 b hb
    rcases w4 with w4 | w4
    · rw [e] at hn; exact hn w4
    · omega
  refine ⟨W, fall, fun b hb => ?_, fun b hb => (five b).2 (.inl hb), ⟨fun b hb => ?_, (keep t (by omega) (by omega) (by omega)).trans h2, lb, tb, q', cap, ps, wv', (keep lb (by omega) (by omega) (by omega)).trans r1, (keep tb (by omega) (by omega) (by omega)).trans r2, ?_, ?_, ?_, ?_, ?_, wd.weak fun b hb => (five b).2 hb, fun j p' R'' hp' hR => ?_⟩⟩
  · rw [hW] at hb; unfold lab at hb
    split at hb
    · rename_i z; rcases hB b z with z | z
      · left; omega
      · exact .inr z
    split at hb
    · omega
    split at hb
    · rename_i z; exact .inr (hD b z).1
    split at hb
    · rename_i z
      rcases hq' with e | e
      · rcases w4 with w4 | w4
        · left; rw [z.1, e]; omega
        · right; omega
      · right; omega
    split at hb
    · omega
    · exact .inl hb
  · rw [hW] at hb; unfold lab at hb
    split at hb
    · rename_i z; have := hB1 b z; omega
    split at hb
    · omega
    split at hb
    · rename_i z; have := hD b z; omega
    split at hb
    · rename_i z; omega
    split at hb
    · omega
    · have := h1 b hb; omega
  · obtain ⟨us, z1, z2, z3⟩ := wd
    rcases z2 with z2 | ⟨cs, z2, _⟩
    · exact .inr z2.2
    · left
      rw [hW]; unfold lab
      have a1 : ¬ w q' = 6 + i := fun e => by
        rcases hq' with rfl | z
        · rcases w4 with w4 | w4
          · omega
          · have := h1 q' (by omega); omega
        · have := h1 q' (by omega); omega
      have a2 : ¬ D2 q' := fun e => by
        have e := hD q' e
        rcases hq' with rfl | z
        · rcases w4 with w4 | w4
          · have := hq2 w4; omega
          · omega
        · omega
      rw [if_neg hBq', if_neg a1, if_neg a2, if_pos ⟨rfl, z2⟩]
  · show H2.get t = some (.cells [.slice _ (S.R.set i R').length _, _, _] false); rw [List.length_set]; exact g2
  · exact (hfr12 tb (by omega) (fun e => by rw [e] at r2; omega) (notq tb (by omega) (by omega))).trans ((f.get tb tbn (by omega)).trans r5)
  · show ps.length = (S.R.set i R').length; rw [List.length_set]; exact r6
  · show SlR H2 1 (.slice _ (S.R.set i R').length _) _; rw [List.length_set]
    exact (r7.fr f (by omega)).fr f2 fun e => by rcases e with e | e; rw [e] at r1; omega; exact notq lb (by omega) (by omega) e
  · by_cases hj : j = i
    · subst hj
      rw [hps] at hp'
      injection hp' with hp'
      subst hp'
      simp only at hR
      rw [List.getElem?_set_self hi] at hR
      injection hR with hR
      subst hR
      exact (hr.fr f2 fun b hb e => by rcases e with e | e; exact hBt (e ▸ hb); exact hBq (e ▸ hb)).congr mine
    · unfold Tp.say at hR
      rw [List.getElem?_set_ne (Ne.symm hj)] at hR
      exact (((r9 j p' R'' hp' hR).fr f (fun b hb => by omega)).fr f2 fun b hb e => by rcases e with e | e; rw [e] at hb; omega; exact notq b (by omega) (by omega) e).congr fun b => other b j hj

section
variable (c : Ctx) (hc : HasTroop c) {H : IHeap} {K : Value → IHeap → Prop} {w : Nat → Nat} {t : Nat} {g : FuncId} {S : Tp}

include hc in
theorem say_ok {H1 : IHeap} {i p : Nat} {R' : Rp} {m : List NoteD} {u : Value} {B' : Nat → Prop} (h : IsT w H t g S) (hi : i < S.R.length) (hp : ∃ lb cap wv fv cs ro, H.get t = some (.cells [.slice (some ⟨lb, 0, none⟩) S.R.length cap, wv, fv] false) ∧ H.get lb = some (.cells cs ro) ∧ cs[i]? = some (.pointer (some ⟨p, 0, none⟩)))
    (hl : S.way.length ≤ 1024) (hml : m.length ≤ 7168) (f : Fr (fun b => w b = 6 + i) H H1) (hB : ∀ b, B' b → w b = 6 + i ∨ H.next ≤ b) (hr : IsR B' H1 p R') (hm : NtsD (fun b => H.next ≤ b ∧ b < H1.next ∧ ¬ B' b) H1 u m)
    (hK : ∀ H', Tn w H t g (S.say i (R', m)) H' → K (.tuple #[]) H') : c.C (c.F n_troop_way_put) [.pointer (some ⟨t, 1, none⟩), u] H1 K := by
  obtain ⟨q, lv, wv, fv, a1, a2, a3, a4, a5, a6⟩ := h.next hi hp f hB hr
  have tl := h.lt t (by have := h.own; omega)
  have nf := f.next
  exact put_ok c hc (by omega) a1 a2 hm.ms hl hml a3 a4 (fun b hb => a5 b hb.1 hb.2.1) fun wv' q' H2 f2 g2 wd hq' => hK H2 (a6 _ _ wv' q' H2 (fun b hb => hb) f2 g2 wd hq')
end
end Go.Proofs.YtpbbjfighohokaaI
