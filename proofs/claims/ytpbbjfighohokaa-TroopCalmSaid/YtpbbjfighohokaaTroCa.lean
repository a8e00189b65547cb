/- Nodes, and notes under way, when nothing is lost: what is under way arrives in rounds. / Nodes when nothing is lost: an accept, a vote. / Nodes when nothing is lost: a round of accepts, a round of votes. / Nodes when nothing is lost: a value is learned by all. / Nodes when nothing is lost: one leads. / Nodes when nothing is lost: one proposes. / Nodes when nothing is lost: all have all that one proposed, in order (the walk). -/
import Derived.Test.YtpbbjfighohokaaTroM
import Derived.Test.YtpbbjfighohokaaTroT
import Derived.KernelRfl
namespace Go.Proofs.YtpbbjfighohokaaI
set_option linter.unusedSimpArgs false
set_option linter.unusedVariables false
open Go

/-- A note is taken; what is said goes behind. -/
def Tp.stepN (S : Tp) (x : NoteD) : Tp := match S.R[x.to.toNat]? with
  | none => S
  | some R => ⟨S.R.set x.to.toNat (R.take x).1, S.way ++ (R.take x).2⟩
theorem arrR_nil (f : Nat) {S : Tp} (h : S.way = []) : arrR f S = S := by
  cases f with
  | zero => rfl
  | succ f => simp only [arrR]; rw [h]
/-- All that is under way arrives, one by one; what is said meanwhile is under way then. -/
theorem arr_round : ∀ (W : List NoteD) (f : Nat) (Rs : List Rp) (O : List NoteD), (∀ x ∈ W, x.to.toNat < Rs.length) → (W.foldl Tp.stepN ⟨Rs, O⟩).way.length + W.length ≤ 1024 →
    arrR (W.length + f) ⟨Rs, W ++ O⟩ = arrR f (W.foldl Tp.stepN ⟨Rs, O⟩)
  | [], f, Rs, O, _, _ => by simp
  | x :: W, f, Rs, O, hx, hl => by
    obtain ⟨R, hR⟩ : ∃ R, Rs[x.to.toNat]? = some R := ⟨Rs[x.to.toNat]'(hx x (by simp)), List.getElem?_eq_getElem _⟩
    have e1 : Tp.stepN ⟨Rs, O⟩ x = ⟨Rs.set x.to.toNat (R.take x).1, O ++ (R.take x).2⟩ := by unfold Tp.stepN; simp only [hR]
    have mono : ∀ (W : List NoteD) (S : Tp), S.way.length ≤ (W.foldl Tp.stepN S).way.length := by
      intro W
      induction W with
      | nil => intro S; exact Nat.le_refl _
      | cons y W ih =>
        intro S
        refine Nat.le_trans ?_ (ih (S.stepN y))
        unfold Tp.stepN
        split
        · exact Nat.le_refl _
        · simp only [List.length_append]; omega
    rw [List.foldl_cons, e1] at hl ⊢
    have hm := mono W ⟨Rs.set x.to.toNat (R.take x).1, O ++ (R.take x).2⟩
    simp only [List.length_append] at hm
    rw [List.length_cons] at hl
    have e2 : (⟨Rs, x :: W ++ O⟩ : Tp).arrive 0 = ⟨Rs.set x.to.toNat (R.take x).1, W ++ (O ++ (R.take x).2)⟩ := by
      rw [Tp.arrive_eq (x := x) (R := R) rfl hR]
      show (⟨Rs.set x.to.toNat (R.take x).1, putN (W ++ O) (R.take x).2⟩ : Tp) = _
      unfold putN
      rw [List.take_of_length_le (by simp only [List.length_append]; omega), List.append_assoc]
    rw [List.length_cons, show W.length + 1 + f = (W.length + f) + 1 by omega]
    show arrR (W.length + f) ((⟨Rs, x :: W ++ O⟩ : Tp).arrive 0) = _
    rw [e2]
    exact arr_round W f _ _ (fun y hy => by rw [List.length_set]; exact hx y (by simp [hy])) (by omega)
end Go.Proofs.YtpbbjfighohokaaI
namespace Go.Proofs.YtpbbjfighohokaaI
set_option linter.unusedSimpArgs false
set_option linter.unusedVariables false
open Go
set_option linter.unusedSectionVars false

structure CB (N : Int) (a i : Nat) (ba bn nx : Int) (R : Rp) : Prop where
  n : R.n = N
  me : R.me = i
  ab : R.A.base = 0
  ap : R.A.pa = ba ∧ R.A.pn = bn
  lb : R.L.base = 0
  ln : R.L.n = N
  p : i = a → R.P.does = 2 ∧ R.P.next = nx ∧ R.P.ba = ba ∧ R.P.bn = bn
/-- So many votes were heard. -/
structure LQ (lv : List ByteArray) (v : VoteD) (q : Int) (c : Nat) (L : Lr) : Prop where
  told : ∀ s, L.told s = if s = lv.length ∧ q ≤ c then some v.val else if 0 ≤ s then lv[s.toNat]? else none
  votes : ∀ f, L.votes ((lv.length : Int), f) = if (c : Int) < q ∧ 0 ≤ f ∧ f < c then some v else none
  rest : ∀ s f, (lv.length : Int) < s → L.votes (s, f) = none
theorem cnt_upto {m : Int × Int → Option VoteD} {v : VoteD} {c : Nat} (h : ∀ j : Nat, m (v.slot, (j : Int)) = if j ≤ c then some v else none) : ∀ k, cnt m v k = min k (c + 1)
  | 0 => by simp [cnt]
  | k + 1 => by
    rw [cnt, cnt_upto h k, h k]
    by_cases hk : k ≤ c
    · rw [if_pos hk, if_pos rfl]; omega
    · rw [if_neg hk, if_neg (by simp)]; omega

section
variable {N : Int} {a i : Nat} {ba bn nx : Int} {R : Rp} (hq : quorumI N ≠ 0) (hi : (i : Int) < N) (hv : validB ba bn = true) (h : CB N a i ba bn nx R)
include hq hi hv h
theorem CB.node {j : Nat} (hj : (j : Int) < N) : R.isNode j = true := by
  unfold Rp.isNode
  rw [h.n]
  simp; omega
theorem take_accept {v : VoteD} (ha : (a : Int) < N) (hb : v.a = ba ∧ v.n = bn) (hs : 0 ≤ v.slot ∧ v.slot < 1024) (hz : v.val.size ≤ 4096) :
    CB N a i ba bn nx (R.take { voteN 3 v with fr := a, to := i }).1 ∧ (R.take { voteN 3 v with fr := a, to := i }).1.L = R.L ∧ (R.take { voteN 3 v with fr := a, to := i }).2 = allN R (voteN 4 v) := by
  have hl : v.val.data.toList.length = v.val.size := rfl
  have hnode : R.isNode (a : Int) = true := h.node hq hi hv ha
  have hme : (i : Int) = R.me := h.me.symm
  have hacc : R.A.accept v = ({ R.A with pa := v.a, pn := v.n, L := putV R.A.L v }, true) := by
    unfold Acc.accept
    rw [if_neg ?_]
    simp only [not_or, Bool.not_eq_false]
    refine ⟨?_, by rw [h.ab]; omega, by omega, by omega⟩
    unfold Acc.may
    rw [hb.1, hb.2, hv, Bool.true_and, h.ap.1, h.ap.2, decide_eq_true_eq, cmpB_ge]
    omega
  have e : R.take { voteN 3 v with fr := a, to := i } = R.accept v := by
    unfold Rp.take
    rw [if_neg (by simp only [hnode, hme]; simp), if_neg (by simp [voteN]), if_neg (by simp [voteN]), if_pos (by simp [voteN])]
    rfl
  rw [e]
  unfold Rp.accept
  rw [hacc]
  refine ⟨⟨h.n, h.me, h.ab, hb, h.lb, h.ln, fun e => ?_⟩, rfl, rfl⟩
  have hp := h.p e
  have : (R.P.step v.a v.n).1 = R.P := by
    have hcm : cmpB ba bn ba bn ≤ 0 := by
      have := cmpB_gt (a := ba) (n := bn) (b := ba) (m := bn)
      omega
    unfold Pro.step
    rw [if_pos (.inr (by rw [hb.1, hb.2, hp.2.2.1, hp.2.2.2]; exact hcm))]
  show (R.P.step v.a v.n).1.does = 2 ∧ (R.P.step v.a v.n).1.next = nx ∧ (R.P.step v.a v.n).1.ba = ba ∧ (R.P.step v.a v.n).1.bn = bn
  rw [this]
  exact hp
theorem take_voted {v : VoteD} {lv : List ByteArray} {c : Nat} (hc : (c : Int) < N) (hL : LQ lv v (quorumI N) c R.L) (hb : v.a = ba ∧ v.n = bn) (hs : v.slot = lv.length) (hk : (lv.length : Int) < 1024) (hz : v.val.size ≤ 4096) :
    CB N a i ba bn nx (R.take { voteN 4 v with fr := c, to := i }).1 ∧ LQ lv v (quorumI N) (c + 1) (R.take { voteN 4 v with fr := c, to := i }).1.L ∧ (R.take { voteN 4 v with fr := c, to := i }).2 = [] := by
  have hnode : R.isNode (c : Int) = true := h.node hq hi hv hc
  have hme : (i : Int) = R.me := h.me.symm
  have hqn := quorumI_ne hq
  have e : R.take { voteN 4 v with fr := c, to := i } = ({ R with L := (R.L.hear c v).1 }, []) := by
    unfold Rp.take
    rw [if_neg (by simp only [hnode, hme]; simp), if_neg (by simp [voteN]), if_neg (by simp [voteN]), if_neg (by simp [voteN]), if_pos (by simp [voteN])]
    rfl
  rw [e]
  have hbase : (R.L.hear c v).1.base = 0 := by
    unfold Lr.hear
    split
    · split <;> exact h.lb
    · exact h.lb
  refine ⟨⟨h.n, h.me, h.ab, h.ap, hbase, (hear_n _ _ _).trans h.ln, h.p⟩, ?_, rfl⟩
  show LQ lv v (quorumI N) (c + 1) (R.L.hear c v).1
  have hnone : lv[lv.length]? = none := List.getElem?_eq_none (Nat.le_refl _)
  by_cases hcq : quorumI N ≤ (c : Int)
  · have hm : mayB R.L v.slot v.val = false := by
      unfold mayB
      rw [hL.told, if_pos ⟨hs, hcq⟩]
      simp
    have : R.L.hear c v = (R.L, false) := by
      unfold Lr.hear freshB
      rw [hm, Bool.false_and]
      simp
    rw [this]
    refine ⟨fun s => ?_, fun f => ?_, hL.rest⟩
    · rw [hL.told]
      by_cases es : s = (lv.length : Int)
      · rw [if_pos ⟨es, hcq⟩, if_pos ⟨es, by omega⟩]
      · rw [if_neg (fun z => es z.1), if_neg (show ¬ (s = (lv.length : Int) ∧ quorumI N ≤ ((c + 1 : Nat) : Int)) from fun z => es z.1)]
    · rw [hL.votes, if_neg (by omega), if_neg (by omega)]
  · have hfresh : freshB R.L c v = true := by
      unfold freshB mayB
      rw [hL.told, if_neg (by omega), hs, if_pos (by omega), Int.toNat_natCast, hnone, hL.votes, if_neg (by omega), h.lb, h.ln, hb.1, hb.2, hv]
      simp; omega
    have hvotes : ∀ j : Nat, (R.L.vote c v).votes (v.slot, (j : Int)) = if j ≤ c then some v else none := fun j => by
      show (if (v.slot, (c : Int)) = (v.slot, (j : Int)) then some v else R.L.votes (v.slot, (j : Int))) = _
      by_cases e : j = c
      · rw [e, if_pos rfl, if_pos (Nat.le_refl _)]
      · rw [if_neg (by simp; omega), hs, hL.votes]
        by_cases hj : j < c
        · rw [if_pos (by omega), if_pos (by omega)]
        · rw [if_neg (by omega), if_neg (by omega)]
    have hcnt : (cnt (R.L.vote c v).votes v R.L.n.toNat : Int) = (c : Int) + 1 := by rw [cnt_upto hvotes, h.ln]; omega
    unfold Lr.hear
    rw [if_pos hfresh, hcnt, h.ln]
    by_cases hlt : (c : Int) + 1 < quorumI N
    · rw [if_pos hlt]
      refine ⟨fun s => ?_, fun f => ?_, fun s f hsf => ?_⟩
      · show R.L.told s = _
        rw [hL.told, if_neg (show ¬ (s = (lv.length : Int) ∧ quorumI N ≤ (c : Int)) by omega), if_neg (show ¬ (s = (lv.length : Int) ∧ quorumI N ≤ ((c + 1 : Nat) : Int)) by omega)]
      · show (if (v.slot, (c : Int)) = ((lv.length : Int), f) then some v else R.L.votes ((lv.length : Int), f)) = _
        by_cases e : f = (c : Int)
        · rw [e, hs, if_pos rfl, if_pos (by omega)]
        · rw [if_neg (by simp; omega), hL.votes]
          by_cases hf : 0 ≤ f ∧ f < c
          · rw [if_pos (by omega), if_pos (by omega)]
          · rw [if_neg (by omega), if_neg (by omega)]
      · show (if (v.slot, (c : Int)) = (s, f) then some v else R.L.votes (s, f)) = _
        rw [if_neg (by simp; omega)]
        exact hL.rest s f hsf
    · rw [if_neg hlt]
      refine ⟨fun s => ?_, fun f => ?_, fun s f hsf => ?_⟩
      · show (if v.slot = s then some v.val else R.L.told s) = _
        by_cases e : s = (lv.length : Int)
        · rw [if_pos (by omega), if_pos (by omega)]
        · rw [if_neg (by omega), hL.told, if_neg (fun z => e z.1), if_neg (show ¬ (s = (lv.length : Int) ∧ quorumI N ≤ ((c + 1 : Nat) : Int)) from fun z => e z.1)]
      · show (if (lv.length : Int) = v.slot ∧ 0 ≤ f ∧ f < R.L.n then none else (R.L.vote c v).votes ((lv.length : Int), f)) = _
        rw [if_neg (show ¬ (((c + 1 : Nat) : Int) < quorumI N ∧ 0 ≤ f ∧ f < ((c + 1 : Nat) : Int)) by omega), h.ln]
        by_cases hf : 0 ≤ f ∧ f < N
        · rw [if_pos ⟨hs.symm, hf⟩]
        · rw [if_neg (fun z => hf z.2)]
          show (if (v.slot, (c : Int)) = ((lv.length : Int), f) then some v else R.L.votes ((lv.length : Int), f)) = none
          rw [if_neg (by simp; omega), hL.votes, if_neg (by omega)]
      · show (if s = v.slot ∧ 0 ≤ f ∧ f < R.L.n then none else (R.L.vote c v).votes (s, f)) = none
        rw [if_neg (by omega)]
        show (if (v.slot, (c : Int)) = (s, f) then some v else R.L.votes (s, f)) = none
        rw [if_neg (by simp; omega)]
        exact hL.rest s f hsf
end
end Go.Proofs.YtpbbjfighohokaaI
namespace Go.Proofs.YtpbbjfighohokaaI
set_option linter.unusedSimpArgs false
set_option linter.unusedVariables false
open Go
set_option linter.unusedSectionVars false

/-- All nodes: how many votes each has heard. -/
def AllC (N : Int) (a : Nat) (ba bn nx : Int) (lv : List ByteArray) (v : VoteD) (k : Nat → Nat) (S : Tp) : Prop :=
  (S.R.length : Int) = N ∧ ∀ (i : Nat) (R : Rp), S.R[i]? = some R → CB N a i ba bn nx R ∧ LQ lv v (quorumI N) (k i) R.L
def accN (a : Nat) (v : VoteD) (j : Nat) : NoteD := { voteN 3 v with fr := (a : Int), to := (j : Int) }
def votN (v : VoteD) (f j : Nat) : NoteD := { voteN 4 v with fr := (f : Int), to := (j : Int) }
def votA (N : Int) (v : VoteD) (f : Nat) : List NoteD := (List.range N.toNat).map fun (j : Nat) => votN v f j
section
variable {N : Int} {a : Nat} {ba bn nx : Int} {lv : List ByteArray} {v : VoteD} (hq : quorumI N ≠ 0) (hv : validB ba bn = true) (ha : (a : Int) < N) (hb : v.a = ba ∧ v.n = bn) (hs : v.slot = lv.length) (hk : (lv.length : Int) < 1024) (hz : v.val.size ≤ 4096)
include hq hv ha hb hs hk hz
theorem step_acc {S : Tp} (h : AllC N a ba bn nx lv v (fun _ => 0) S) {j : Nat} (hj : (j : Int) < N) :
    AllC N a ba bn nx lv v (fun _ => 0) (S.stepN (accN a v j)) ∧ (S.stepN (accN a v j)).way = S.way ++ votA N v j := by
  obtain ⟨h1, h2⟩ := h
  have hj' : j < S.R.length := by omega
  have hR : S.R[j]? = some S.R[j] := List.getElem?_eq_getElem hj'
  obtain ⟨c1, c2⟩ := h2 j _ hR
  obtain ⟨t1, t2, t3⟩ := take_accept hq hj hv c1 ha hb (by omega) hz
  have e : S.stepN (accN a v j) = ⟨S.R.set j (S.R[j].take (accN a v j)).1, S.way ++ (S.R[j].take (accN a v j)).2⟩ := by
    unfold Tp.stepN
    show (match S.R[(j : Int).toNat]? with | none => S | some R => _) = _
    rw [Int.toNat_natCast, hR]
    rfl
  rw [e]
  refine ⟨⟨by rw [List.length_set]; exact h1, fun i R hi => ?_⟩, ?_⟩
  · by_cases he : j = i
    · subst he
      simp only at hi
      rw [List.getElem?_set_self hj'] at hi
      injection hi with hi
      subst hi
      refine ⟨t1, ?_⟩
      show LQ lv v (quorumI N) 0 (S.R[j].take (accN a v j)).1.L
      have t2 : (S.R[j].take (accN a v j)).1.L = S.R[j].L := t2
      rw [t2]; exact c2
    · simp only at hi
      rw [List.getElem?_set_ne he] at hi
      exact h2 i R hi
  · show S.way ++ _ = _
    have t3 : (S.R[j].take (accN a v j)).2 = allN S.R[j] (voteN 4 v) := t3
    rw [t3]
    unfold allN votA votN
    rw [c1.n, c1.me]
theorem step_vot {S : Tp} {k : Nat → Nat} (h : AllC N a ba bn nx lv v k S) {j : Nat} (hj : (j : Int) < N) (hf : (k j : Int) < N) :
    AllC N a ba bn nx lv v (fun i => if i = j then k j + 1 else k i) (S.stepN (votN v (k j) j)) ∧ (S.stepN (votN v (k j) j)).way = S.way := by
  obtain ⟨h1, h2⟩ := h
  have hj' : j < S.R.length := by omega
  have hR : S.R[j]? = some S.R[j] := List.getElem?_eq_getElem hj'
  obtain ⟨c1, c2⟩ := h2 j _ hR
  obtain ⟨t1, t2, t3⟩ := take_voted hq hj hv c1 hf c2 hb hs hk hz
  have e : S.stepN (votN v (k j) j) = ⟨S.R.set j (S.R[j].take (votN v (k j) j)).1, S.way ++ (S.R[j].take (votN v (k j) j)).2⟩ := by
    unfold Tp.stepN
    show (match S.R[(j : Int).toNat]? with | none => S | some R => _) = _
    rw [Int.toNat_natCast, hR]
    rfl
  rw [e]
  refine ⟨⟨by rw [List.length_set]; exact h1, fun i R hi => ?_⟩, ?_⟩
  · by_cases he : j = i
    · subst he
      simp only at hi
      rw [List.getElem?_set_self hj'] at hi
      injection hi with hi
      subst hi
      refine ⟨t1, ?_⟩
      show LQ lv v (quorumI N) (if j = j then k j + 1 else k j) _
      rw [if_pos rfl]
      exact t2
    · simp only at hi
      rw [List.getElem?_set_ne he] at hi
      refine ⟨(h2 i R hi).1, ?_⟩
      show LQ lv v (quorumI N) (if i = j then k j + 1 else k i) _
      rw [if_neg (Ne.symm he)]
      exact (h2 i R hi).2
  · show S.way ++ _ = _
    have t3 : (S.R[j].take (votN v (k j) j)).2 = [] := t3
    rw [t3, List.append_nil]
/-- All accept. -/
theorem fold_acc {S : Tp} (h : AllC N a ba bn nx lv v (fun _ => 0) S) : ∀ m : Nat, (m : Int) ≤ N →
    AllC N a ba bn nx lv v (fun _ => 0) (((List.range m).map (accN a v)).foldl Tp.stepN S) ∧ (((List.range m).map (accN a v)).foldl Tp.stepN S).way = S.way ++ (List.range m).flatMap (votA N v)
  | 0, _ => ⟨h, by simp⟩
  | m + 1, hm => by
    obtain ⟨i1, i2⟩ := fold_acc h m (by omega)
    rw [List.range_succ, List.map_append, List.foldl_append, List.flatMap_append]
    obtain ⟨j1, j2⟩ := step_acc hq hv ha hb hs hk hz i1 (j := m) (by omega)
    refine ⟨j1, ?_⟩
    show (Tp.stepN _ (accN a v m)).way = _
    rw [j2, i2, List.append_assoc]
    simp
/-- A vote of node f, to all. -/
theorem fold_vot1 {f : Nat} (hf : (f : Int) < N) {S : Tp} (h : AllC N a ba bn nx lv v (fun _ => f) S) : ∀ m : Nat, (m : Int) ≤ N →
    AllC N a ba bn nx lv v (fun i => if i < m then f + 1 else f) (((List.range m).map (votN v f)).foldl Tp.stepN S) ∧ (((List.range m).map (votN v f)).foldl Tp.stepN S).way = S.way
  | 0, _ => ⟨by simpa using h, rfl⟩
  | m + 1, hm => by
    obtain ⟨i1, i2⟩ := fold_vot1 hf h m (by omega)
    rw [List.range_succ, List.map_append, List.foldl_append]
    have hkm : (if m < m then f + 1 else f) = f := if_neg (Nat.lt_irrefl m)
    obtain ⟨j1, j2⟩ := step_vot hq hv ha hb hs hk hz i1 (j := m) (by omega) (by simp only [hkm]; exact hf)
    simp only [hkm] at j1 j2
    refine ⟨?_, j2.trans i2⟩
    have : (fun i => if i < m + 1 then f + 1 else f) = fun i => if i = m then f + 1 else if i < m then f + 1 else f := by
      funext i
      by_cases e : i = m
      · rw [e, if_pos (by omega), if_pos rfl]
      · rw [if_neg e]
        by_cases e2 : i < m
        · rw [if_pos (by omega), if_pos e2]
        · rw [if_neg (by omega), if_neg e2]
    rw [this]
    exact j1
end
end Go.Proofs.YtpbbjfighohokaaI
namespace Go.Proofs.YtpbbjfighohokaaI
set_option linter.unusedSimpArgs false
set_option linter.unusedVariables false
open Go
set_option linter.unusedSectionVars false

theorem LQ.next {lv : List ByteArray} {v v' : VoteD} {q : Int} {c : Nat} {L : Lr} (h : LQ lv v q c L) (hq : 1 ≤ q) (hc : q ≤ c) : LQ (lv ++ [v.val]) v' q 0 L := by
  refine ⟨fun s => ?_, fun f => ?_, fun s f hs => ?_⟩
  · rw [h.told, if_neg (show ¬ (s = ((lv ++ [v.val]).length : Int) ∧ q ≤ ((0 : Nat) : Int)) by omega)]
    by_cases e : s = (lv.length : Int)
    · rw [if_pos ⟨e, hc⟩, e, if_pos (by omega), Int.toNat_natCast, List.getElem?_append_right (Nat.le_refl _)]
      simp
    · rw [if_neg (fun z => e z.1)]
      by_cases e0 : 0 ≤ s
      · rw [if_pos e0, if_pos e0]
        by_cases e1 : s.toNat < lv.length
        · rw [List.getElem?_append_left e1]
        · rw [List.getElem?_eq_none (by omega), List.getElem?_eq_none (by rw [List.length_append, List.length_singleton]; omega)]
      · rw [if_neg e0, if_neg e0]
  · rw [h.rest _ _ (by rw [List.length_append, List.length_singleton]; omega)]
    rw [if_neg (by omega)]
  · exact h.rest s f (by rw [List.length_append, List.length_singleton] at hs; omega)

section
variable {N : Int} {a : Nat} {ba bn nx : Int} {lv : List ByteArray} {v : VoteD} (hq : quorumI N ≠ 0) (hv : validB ba bn = true) (ha : (a : Int) < N) (hb : v.a = ba ∧ v.n = bn) (hs : v.slot = lv.length) (hk : (lv.length : Int) < 1024) (hz : v.val.size ≤ 4096)
include hq hv ha hb hs hk hz
/-- All votes. -/
theorem fold_vot {S : Tp} (h : AllC N a ba bn nx lv v (fun _ => 0) S) : ∀ m : Nat, (m : Int) ≤ N →
    AllC N a ba bn nx lv v (fun _ => m) (((List.range m).flatMap (votA N v)).foldl Tp.stepN S) ∧ (((List.range m).flatMap (votA N v)).foldl Tp.stepN S).way = S.way
  | 0, _ => ⟨h, rfl⟩
  | m + 1, hm => by
    obtain ⟨i1, i2⟩ := fold_vot h m (by omega)
    rw [List.range_succ, List.flatMap_append, List.foldl_append]
    obtain ⟨j1, j2⟩ := fold_vot1 hq hv ha hb hs hk hz (f := m) (by omega) i1 N.toNat (by omega)
    have e : (List.flatMap (votA N v) [m]) = (List.range N.toNat).map (votN v m) := by simp [votA]
    rw [e]
    refine ⟨⟨j1.1, fun i R hi => ?_⟩, j2.trans i2⟩
    obtain ⟨x1, x2⟩ := j1.2 i R hi
    have hin : i < N.toNat := by have := (List.getElem?_eq_some_iff.1 hi).1; have := j1.1; omega
    simp only [if_pos hin] at x2
    exact ⟨x1, x2⟩
theorem calm_round {Rs : List Rp} (h : AllC N a ba bn nx lv v (fun _ => 0) ⟨Rs, []⟩) :
    ∃ S', arrR 300 ⟨Rs, (List.range N.toNat).map (accN a v)⟩ = S' ∧ S'.way = [] ∧ ∀ v', AllC N a ba bn nx (lv ++ [v.val]) v' (fun _ => 0) S' := by
  have hqn := quorumI_ne hq
  obtain ⟨n, hn⟩ : ∃ n : Nat, n = N.toNat := ⟨_, rfl⟩
  obtain ⟨a1, a2⟩ := fold_acc hq hv ha hb hs hk hz h N.toNat (by omega)
  have hlen : ∀ m : Nat, ((List.range m).flatMap (votA N v)).length = m * N.toNat := fun m => by
    induction m with
    | zero => simp
    | succ m ih => rw [List.range_succ, List.flatMap_append, List.length_append, ih]; simp [votA, Nat.add_mul]
  obtain ⟨SA, hSA⟩ : ∃ SA, SA = ((List.range N.toNat).map (accN a v)).foldl Tp.stepN ⟨Rs, []⟩ := ⟨_, rfl⟩
  rw [← hSA] at a1 a2
  have a2' : SA.way = (List.range N.toNat).flatMap (votA N v) := by rw [a2]; rfl
  have hbd : N.toNat * N.toNat ≤ 49 := Nat.mul_le_mul (show N.toNat ≤ 7 by omega) (show N.toNat ≤ 7 by omega)
  have e1 := arr_round ((List.range N.toNat).map (accN a v)) (300 - N.toNat) Rs [] (fun x hx => by
    obtain ⟨j, hj, rfl⟩ := List.mem_map.1 hx
    have := List.mem_range.1 hj
    have := h.1
    show (j : Int).toNat < Rs.length
    rw [Int.toNat_natCast]
    have h1 : (Rs.length : Int) = N := h.1
    omega) (by rw [← hSA, a2', hlen, List.length_map, List.length_range]; omega)
  rw [← hSA, List.append_nil, List.length_map, List.length_range, show N.toNat + (300 - N.toNat) = 300 by omega] at e1
  have hSAe : SA = ⟨SA.R, (List.range N.toNat).flatMap (votA N v) ++ []⟩ := by rw [List.append_nil, ← a2']
  have aB : AllC N a ba bn nx lv v (fun _ => 0) ⟨SA.R, []⟩ := ⟨a1.1, a1.2⟩
  obtain ⟨b1, b2⟩ := fold_vot hq hv ha hb hs hk hz aB N.toNat (by omega)
  obtain ⟨SB, hSB⟩ : ∃ SB, SB = ((List.range N.toNat).flatMap (votA N v)).foldl Tp.stepN ⟨SA.R, []⟩ := ⟨_, rfl⟩
  rw [← hSB] at b1 b2
  have e2 := arr_round ((List.range N.toNat).flatMap (votA N v)) (300 - N.toNat - N.toNat * N.toNat) SA.R [] (fun x hx => by
    obtain ⟨f, _, hx⟩ := List.mem_flatMap.1 hx
    obtain ⟨j, hj, rfl⟩ := List.mem_map.1 hx
    have := List.mem_range.1 hj
    show (j : Int).toNat < SA.R.length
    rw [Int.toNat_natCast]
    have := a1.1
    omega) (by rw [← hSB, b2, hlen]; show 0 + N.toNat * N.toNat ≤ 1024; omega)
  rw [← hSB, ← hSAe, hlen, show N.toNat * N.toNat + (300 - N.toNat - N.toNat * N.toNat) = 300 - N.toNat by omega] at e2
  refine ⟨SB, ?_, b2, fun v' => ⟨b1.1, fun i R hi => ⟨(b1.2 i R hi).1, (b1.2 i R hi).2.next hqn.2.2.1 (show quorumI N ≤ ((N.toNat : Nat) : Int) by omega)⟩⟩⟩
  rw [e1, e2]
  exact arrR_nil _ b2
end
end Go.Proofs.YtpbbjfighohokaaI
namespace Go.Proofs.YtpbbjfighohokaaI
set_option linter.unusedSimpArgs false
set_option linter.unusedVariables false
open Go

def ledS (n : Int) (a : Nat) : Tp := arrR 300 ((Tp.new n).say a (Rp.new n a).lead)
def okLed (n : Int) (a : Nat) : Bool := decide ((ledS n a).way = []) && (decide (((ledS n a).R.length : Int) = n) && (List.range n.toNat).all fun i => match (ledS n a).R[i]? with
  | none => false
  | some R => decide (R.n = n ∧ R.me = i ∧ R.A.base = 0 ∧ R.A.pa = 1 ∧ R.A.pn = a ∧ R.L.base = 0 ∧ R.L.n = n) && (decide (i ≠ a) || decide (R.P.does = 2 ∧ R.P.next = 0 ∧ R.P.ba = 1 ∧ R.P.bn = a)))
theorem led_all : ((List.range 8).all fun n => n == 0 || (List.range n).all fun a => okLed n a) = true := by decide +kernel
theorem led_L (n a : Nat) (hn : 1 ≤ n) (h7 : n ≤ 7) (ha : a < n) : (ledS n a).R.map (fun R => R.L) = (List.range n).map fun _ => (⟨n, 0, fun _ => none, fun _ => none⟩ : Lr) := by
  rcases (by omega : n = 1 ∨ n = 2 ∨ n = 3 ∨ n = 4 ∨ n = 5 ∨ n = 6 ∨ n = 7) with rfl | rfl | rfl | rfl | rfl | rfl | rfl <;>
    rcases (by omega : a = 0 ∨ a = 1 ∨ a = 2 ∨ a = 3 ∨ a = 4 ∨ a = 5 ∨ a = 6) with rfl | rfl | rfl | rfl | rfl | rfl | rfl <;> first | (exfalso; omega) | kernel_rfl
theorem quo1 {n : Nat} (hn : 1 ≤ n) (h7 : n ≤ 7) : 1 ≤ quorumI n := by
  rcases (by omega : n = 1 ∨ n = 2 ∨ n = 3 ∨ n = 4 ∨ n = 5 ∨ n = 6 ∨ n = 7) with rfl | rfl | rfl | rfl | rfl | rfl | rfl <;> decide
theorem led_calm {n a : Nat} (hn : 1 ≤ n) (h7 : n ≤ 7) (ha : a < n) (v : VoteD) : (ledS n a).way = [] ∧ AllC n a 1 a 0 [] v (fun _ => 0) (ledS n a) := by
  have h1 := List.all_eq_true.1 led_all n (List.mem_range.2 (by omega))
  rw [Bool.or_eq_true] at h1
  have h2 := List.all_eq_true.1 (h1.resolve_left (by simp; omega)) a (List.mem_range.2 ha)
  unfold okLed at h2
  rw [Bool.and_eq_true, Bool.and_eq_true, decide_eq_true_eq, decide_eq_true_eq] at h2
  obtain ⟨w1, w2, w3⟩ := h2
  refine ⟨w1, w2, fun i R hi => ?_⟩
  have hil := (List.getElem?_eq_some_iff.1 hi).1
  have h4 := List.all_eq_true.1 w3 i (List.mem_range.2 (by omega))
  rw [hi] at h4
  simp only [Bool.and_eq_true, decide_eq_true_eq, Bool.or_eq_true] at h4
  obtain ⟨⟨b1, b2, b3, b4, b5, b6, b7⟩, b8⟩ := h4
  have hL : R.L = ⟨n, 0, fun _ => none, fun _ => none⟩ := by
    have := congrArg (fun l => l[i]?) (led_L n a hn h7 ha)
    simp only [List.getElem?_map, hi, Option.map_some] at this
    rw [List.getElem?_range (by omega)] at this
    simpa using this
  refine ⟨⟨b1, b2, b3, ⟨b4, b5⟩, b6, b7, fun e => b8.resolve_left (fun hne => hne e)⟩, ?_⟩
  rw [hL]
  have hq := quo1 hn h7
  show LQ [] v (quorumI n) 0 _
  refine ⟨fun s => ?_, fun f => ?_, fun s f _ => rfl⟩
  · rw [if_neg (show ¬ (s = (([] : List ByteArray).length : Int) ∧ quorumI n ≤ ((0 : Nat) : Int)) by omega)]
    split <;> simp
  · rw [if_neg (show ¬ (((0 : Nat) : Int) < quorumI n ∧ 0 ≤ f ∧ f < ((0 : Nat) : Int)) by omega)]
end Go.Proofs.YtpbbjfighohokaaI
namespace Go.Proofs.YtpbbjfighohokaaI
set_option linter.unusedSimpArgs false
set_option linter.unusedVariables false
open Go

theorem calm_propose {N : Int} {a : Nat} {ba bn : Int} {lv : List ByteArray} {S : Tp} (hq : quorumI N ≠ 0) (hv : validB ba bn = true) (ha : (a : Int) < N) (h : ∀ v, AllC N a ba bn lv.length lv v (fun _ => 0) S) (hw : S.way = []) {s : ByteArray} (hz : s.size ≤ 4096) (hk : (lv.length : Int) < 1024)
    {R : Rp} (hR : S.R[a]? = some R) : (R.propose s).2.2 = 0 ∧ (arrR 300 (S.say a ((R.propose s).1, (R.propose s).2.1))).way = [] ∧ ∀ v', AllC N a ba bn (lv ++ [s]).length (lv ++ [s]) v' (fun _ => 0) (arrR 300 (S.say a ((R.propose s).1, (R.propose s).2.1))) := by
  have hqn := quorumI_ne hq
  obtain ⟨v, hv'⟩ : ∃ v : VoteD, v = ⟨lv.length, ba, bn, s⟩ := ⟨_, rfl⟩
  obtain ⟨h1, h2⟩ := h v
  obtain ⟨c1, c2⟩ := h2 a R hR
  obtain ⟨p1, p2, p3, p4⟩ := c1.p rfl
  have hpp : R.P.propose s = (R.P.setNext (R.P.next + 1), 0) := by
    unfold Pro.propose
    rw [if_neg (by omega), if_neg (by omega), if_neg (by rw [p1]; simp)]
  have hpv : R.P.proposeV s = v := by unfold Pro.proposeV; rw [hpp, if_pos rfl, p2, p3, p4, hv']
  have hrp : R.propose s = ({ R with P := R.P.setNext (R.P.next + 1) }, allN R (voteN 3 v), 0) := by
    unfold Rp.propose
    rw [hpp, if_neg (by simp), hpv]
  rw [hrp]
  have hal : allN R (voteN 3 v) = (List.range N.toNat).map (accN a v) := by unfold allN accN; rw [c1.n, c1.me]
  have hla := (List.getElem?_eq_some_iff.1 hR).1
  have hS : S.say a ({ R with P := R.P.setNext (R.P.next + 1) }, allN R (voteN 3 v)) = ⟨S.R.set a { R with P := R.P.setNext (R.P.next + 1) }, (List.range N.toNat).map (accN a v)⟩ := by
    unfold Tp.say putN
    rw [hw, hal, List.take_of_length_le (by rw [List.length_map, List.length_range]; simp; omega)]
    rfl
  have hA : AllC N a ba bn ((lv ++ [s]).length : Int) lv v (fun _ => 0) ⟨S.R.set a { R with P := R.P.setNext (R.P.next + 1) }, []⟩ := by
    refine ⟨by rw [List.length_set]; exact h1, fun i Q hi => ?_⟩
    by_cases e : a = i
    · subst e
      simp only at hi
      rw [List.getElem?_set_self hla] at hi
      injection hi with hi
      subst hi
      refine ⟨⟨c1.n, c1.me, c1.ab, c1.ap, c1.lb, c1.ln, fun _ => ⟨p1, ?_, p3, p4⟩⟩, c2⟩
      show R.P.next + 1 = _
      rw [p2, List.length_append, List.length_singleton]
      omega
    · simp only at hi
      rw [List.getElem?_set_ne e] at hi
      obtain ⟨d1, d2⟩ := h2 i Q hi
      exact ⟨⟨d1.n, d1.me, d1.ab, d1.ap, d1.lb, d1.ln, fun e' => absurd e'.symm e⟩, d2⟩
  have hb : v.a = ba ∧ v.n = bn := by rw [hv']; exact ⟨rfl, rfl⟩
  have hsl : v.slot = lv.length := by rw [hv']
  have hval : v.val = s := by rw [hv']
  obtain ⟨S', e1, e2, e3⟩ := calm_round hq hv ha hb hsl hk (by rw [hval]; exact hz) hA
  refine ⟨rfl, ?_, fun v' => ?_⟩
  · show (arrR 300 (S.say a _)).way = []
    rw [hS, e1]; exact e2
  · show AllC N a ba bn _ _ v' _ (arrR 300 (S.say a _))
    rw [hS, e1, ← hval]
    rw [← hval] at e3
    exact e3 v'
end Go.Proofs.YtpbbjfighohokaaI
namespace Go.Proofs.YtpbbjfighohokaaI
attribute [local simp] J0 J1 J2 J3 J4 J5 J6 J7 J8 J9 Ja Jb Jc Jd Je Jf Jg Jh Ji Jj Jk Jl Jm Jn Jo Jp Jq Jr Js Jt Ju Jv Jw Jx Jy Jz JA JB JC JD JE JF JG JH JI JJ JK JL JM JN JO JP JQ JR JS stillI IOp.kind JT JU JV JW JX JY JZ Y0 Y1 Y2 Y3 Y4 Y5 Y6 Y7 Y8 Y9 Ya Yb Yc Yd Ye Yf Yg Yh Yi Yj Yk Yl Ym Yn Yo Yp Yq ial Yr Ys Yt Yu Yv Yw Yx Yy ires iresL ires1 Yz YA YB YC YD YE bin2 YF YG YH YI YJ YK YL YM YN YO YP YQ YR YS YT YU un1 shOk eqL eq1 fillL putAt IHeap.load1 IHeap.loadL IHeap.storeL YV YW YX YY YZ B0 B1 B2 B3 B4 B5 B6 B7 B8 B9 Ba Bb Bc Bd Be Bf Bg Bh Bi Bj Bk Bl Bm Bn Bo Bp
set_option linter.unusedSimpArgs false
set_option linter.unusedVariables false
open Go

theorem calm_log {lv : List ByteArray} {v : VoteD} {q : Int} {L : Lr} (hq : 1 ≤ q) (h : LQ lv v q 0 L) (hb : L.base = 0) (hL : L.ok) (hk : lv.length ≤ 1000) : logL L 0 = lv := by
  have ht : ∀ s, L.told s = if 0 ≤ s then lv[s.toNat]? else none := fun s => by rw [h.told, if_neg (show ¬ (s = (lv.length : Int) ∧ q ≤ ((0 : Nat) : Int)) by omega)]
  have hn : nextL L = lv.length := by
    refine IsNext.uniq (nextL_ok hL) ⟨by omega, by omega, ?_, fun t h1 h2 => ?_⟩
    · rw [ht, if_pos (by omega), Int.toNat_natCast, List.getElem?_eq_none (Nat.le_refl _)]
    · rw [ht, if_pos (by omega), List.getElem?_eq_getElem (by omega)]
      simp
  unfold logL
  rw [hb, if_neg (by omega), hn]
  apply List.ext_getElem?
  intro j
  rw [List.getElem?_map]
  by_cases hj : j < lv.length
  · rw [List.getElem?_range (by omega)]
    simp only [Option.map_some]
    rw [ht, if_pos (by omega), show ((0 : Int) + (j : Int)).toNat = j by omega, List.getElem?_eq_getElem hj]
    rfl
  · rw [List.getElem?_eq_none (by simp; omega), List.getElem?_eq_none (by omega)]
    rfl
def CalmI (n : Int) (a : Nat) (t : Nat) (f : FuncId) (H : IHeap) (lv : List ByteArray) (H' : IHeap) : Prop :=
  ∃ (w : Nat → Nat) (S : Tp), H.le H' ∧ (∀ b, w b ≠ 0 → H.next ≤ b) ∧ IsT w H' t f S ∧ S.ok n ∧ S.way = [] ∧ ∀ v, AllC n a 1 a lv.length lv v (fun _ => 0) S

section
variable (c : Ctx) (hc : HasTroop c) (hN : NodeC c) (hR : HasRef22 c) (hL : HasLaw22 c) {H : IHeap} {K : Value → IHeap → Prop}

include hc hN hR hL in
theorem calm_ok22 (hW : ∀ H K, (∀ H', K (.bool true) H') → c.C (c.F n_hurdlelaw22_awake) [] H K) {n nd : Int} {v : Value} {l : List ByteArray} (hv : SlR H 1 v (l.map row1)) (hK : ∀ H', K (.bool true) H') :
    c.C (c.F n_hurdlelaw22_TroopCalm) [.int .i64 n, .int .i64 nd, v] H K := by
  refine c.enter hL.hurdlelaw22_TroopCalm rfl ?_
  obtain ⟨va, vc, hve⟩ : ∃ a cap, v = .slice a l.length cap := by obtain ⟨a, cap, e, _⟩ := hv; rw [List.length_map] at e; exact ⟨a, cap, e⟩
  have aw : ∀ HX, c.C (c.F n_hurdlelaw22_awake) [] HX fun r _ => r = .bool true := fun HX => hW _ _ fun _ => rfl
  simp -implicitDefEqProofs [c_hurdlelaw22_TroopCalm]
  refine call_of (refQuorum_ok c hN.bb ?_)
  by_cases hq : quorumI n = 0
  · simp -implicitDefEqProofs [hq]
    refine call_of (hW _ _ fun H' => ?_)
    simp -implicitDefEqProofs []
    exact hK _
  by_cases h1 : nd < 0
  · simp -implicitDefEqProofs [hq, h1]
    refine call_of (hW _ _ fun H' => ?_)
    simp -implicitDefEqProofs []
    exact hK _
  by_cases h2 : n ≤ nd
  · simp -implicitDefEqProofs [hq, h1, h2]
    refine call_of (hW _ _ fun H' => ?_)
    simp -implicitDefEqProofs []
    exact hK _
  by_cases h3 : 8 < l.length
  · have h3' : (8 : Int) < (l.length : Int) := by omega
    simp -implicitDefEqProofs [hq, h1, h2, hve, h3, h3']
    refine call_of (hW _ _ fun H' => ?_)
    simp -implicitDefEqProofs []
    exact hK _
  have h3' : ¬ (8 : Int) < (l.length : Int) := by omega
  have hqn := quorumI_ne hq
  obtain ⟨a, hae⟩ : ∃ a : Nat, nd = a := ⟨nd.toNat, by omega⟩
  obtain ⟨m, hme⟩ : ∃ m : Nat, n = m := ⟨n.toNat, by omega⟩
  subst hae
  have hval : validB 1 (a : Int) = true := validB_iff.2 (by omega)
  simp -implicitDefEqProofs [hq, h1, h2, hve, h3, h3']
  refine call_of (TNew_ok c hc hN (fun h => absurd h hq) fun _ t w0 H1 k1 hw0 i1 => ?_)
  have hat : (Tp.new n).at (a : Int) = some (Rp.new n a) := by
    unfold Tp.at Tp.new
    rw [if_pos (by omega), Int.toNat_natCast, List.getElem?_map, List.getElem?_range (by omega)]
    rfl
  simp -implicitDefEqProofs []
  refine call_of (TLead_ok c hc hN (n := n) i1 (.new hq) (fun h => by rw [hat] at h; cases h) fun R hR1 H2 tn2 ok2 => ?_)
  rw [hat] at hR1
  injection hR1 with hR1
  subst hR1
  obtain ⟨w2, p1, p2, _, i2⟩ := tn2
  simp -implicitDefEqProofs []
  refine call_of (deliver_ok c hc hN hL i2 ok2 fun H3 tn3 ok3 => ?_)
  obtain ⟨w3, q1, q2, _, i3⟩ := tn3
  have hled := led_calm (n := m) (a := a) (by omega) (by omega) (by omega)
  have hSe : arrR 300 ((Tp.new n).say (a : Int).toNat (Rp.new n a).lead) = ledS m a := by rw [Int.toNat_natCast, hme]; rfl
  rw [hSe] at i3 ok3
  have n1 := k1.next
  have n2 := p1.next
  have n3 := q1.next
  have hw3 : ∀ b, w3 b ≠ 0 → H.next ≤ b := fun b hb => by
    rcases q2 b hb with z | z
    · rcases p2 b z with y | y
      · exact hw0 b y
      · omega
    · omega
  have hle3 : H.le H3 := ⟨by omega, fun b hb => by
    rw [q1.get b (by omega) fun hh => by rcases p2 b hh with y | y; have := hw0 b y; omega; omega, p1.get b (by omega) fun hh => by have := hw0 b hh; omega, k1.get b hb]⟩
  simp -implicitDefEqProofs []
  refine loop_nat c.mono (fun k T H' => ∃ i : Nat, i ≤ l.length ∧ k = l.length - i ∧ T 0 = .int .i64 n ∧ T 1 = .int .i64 a ∧ T 2 = v ∧ T 7 = .pointer (some ⟨t, 0, none⟩) ∧ T 8 = .int .i64 i ∧ CalmI n a t (c.F n_troop_New_F1) H (l.take i) H') l.length ?_ ?_
  · refine ⟨0, by omega, rfl, ?_⟩
    simp -implicitDefEqProofs []
    exact ⟨hve.symm, w3, ledS m a, hle3, hw3, i3, ok3, (hled ⟨0, 0, 0, noS⟩).1, fun v => by rw [hme]; exact (hled v).2⟩
  · rintro k T H' ⟨i, hi, rfl, t0, t1, t2, t7, t8, w, S, hle, hw, hS, ho, hway, hall⟩
    have hil0 : (l.take i).length = i := by rw [List.length_take]; omega
    by_cases hil : i < l.length
    · have hil' : (i : Int) < (l.length : Int) := by omega
      have wi : IntKind.i64.wrap ((i : Int) + 1) = (i : Int) + 1 := wrap64 (by omega) (by omega)
      obtain ⟨x, hx⟩ : ∃ x, l[i]? = some x := ⟨l[i], List.getElem?_eq_getElem hil⟩
      obtain ⟨b, o, cp, cs, ro, e, hb, hg0, hat1⟩ := hv.at1 (i := i) (x := .string x) (by rw [List.getElem?_map, hx]; rfl)
      rw [List.length_map] at e
      have hg := (hle.get b hb).trans hg0
      have hsz : x.data.toList.length = x.size := rfl
      by_cases c1 : 100 < x.size
      · have c1' : (100 : Int) < (x.size : Int) := by omega
        simp -implicitDefEqProofs [t0, t1, t2, t7, t8, e, hil, hil', hg, hat1, hsz, c1, c1']
        refine call_of (hW _ _ fun H' => ?_)
        simp -implicitDefEqProofs []
        exact hK _
      · have c1' : ¬ (100 : Int) < (x.size : Int) := by omega
        simp -implicitDefEqProofs [t0, t1, t2, t7, t8, e, hil, hil', hg, hat1, hsz, c1, c1']
        have hla : a < S.R.length := by have := ho.len; omega
        have hRa : S.R[a]? = some S.R[a] := List.getElem?_eq_getElem hla
        have hSat : S.at (a : Int) = some S.R[a] := by unfold Tp.at; rw [if_pos (by omega), Int.toNat_natCast]; exact hRa
        obtain ⟨m1, m2, m3⟩ := calm_propose hq hval (by omega) hall hway (s := x) (by omega) (by omega) hRa
        refine call_of (TPropose_ok c hc hN (s := x) hS ho (fun h => by rw [hSat] at h; cases h) (fun R hR1 _ H4 tn4 ok4 => ?_) fun R hR1 he => ?_)
        rotate_left
        · rw [hSat] at hR1
          injection hR1 with hR1
          subst hR1
          exact absurd m1 he
        rw [hSat] at hR1
        injection hR1 with hR1
        subst hR1
        obtain ⟨w4, r1, r2, _, i4⟩ := tn4
        simp -implicitDefEqProofs [t0, t1, t2, t7, t8]
        refine call_of (deliver_ok c hc hN hL i4 ok4 fun H5 tn5 ok5 => ?_)
        obtain ⟨w5, s1, s2, _, i5⟩ := tn5
        have n0 := hle.next
        have n4 := r1.next
        have n5 := s1.next
        rw [Int.toNat_natCast] at i5 ok5
        simp -implicitDefEqProofs [t0, t1, t2, t7, t8, wi]
        have htk : l.take (i + 1) = l.take i ++ [x] := by rw [List.take_add_one, hx]; rfl
        refine ⟨l.length - (i + 1), by omega, i + 1, by omega, rfl, e, rfl, w5, _, ⟨by omega, fun b hb => ?_⟩, fun b hb => ?_, i5, ok5, m2, fun v => by rw [htk]; exact m3 v⟩
        · rw [s1.get b (by omega) fun hh => by rcases r2 b hh with y | y; have := hw b y; omega; omega, r1.get b (by omega) fun hh => by have := hw b hh; omega, hle.get b hb]
        · rcases s2 b hb with z | z
          · rcases r2 b z with y | y
            · exact hw b y
            · omega
          · omega
    · have hil' : ¬ (i : Int) < (l.length : Int) := by omega
      rw [List.take_of_length_le (by omega)] at hall
      have hlen := ho.len
      simp -implicitDefEqProofs [t0, t1, t2, t7, t8, hve, hil, hil']
      refine loop_nat c.mono (fun m T HX => ∃ k : Nat, (k : Int) ≤ n ∧ m = n.toNat - k ∧ T 0 = .int .i64 n ∧ T 2 = v ∧ T 7 = .pointer (some ⟨t, 0, none⟩) ∧ T 9 = .int .i64 k ∧ H'.le HX) n.toNat ?_ ?_
      · refine ⟨0, by omega, by omega, ?_⟩
        simp -implicitDefEqProofs [t0, t1, t2, t7, t8]
        exact IHeap.le_refl _
      · rintro m T HX ⟨k, hk, rfl, t0, t2, t7, t9, kX⟩
        have iX := hS.le kX
        by_cases hkl : (k : Int) < n
        · have wk : IntKind.i64.wrap ((k : Int) + 1) = (k : Int) + 1 := wrap64 (by omega) (by omega)
          have hkr : S.R[k]? = some (S.R[k]'(by omega)) := List.getElem?_eq_getElem _
          have hSat : S.at (k : Int) = some (S.R[k]'(by omega)) := by unfold Tp.at; rw [if_pos (by omega), Int.toNat_natCast]; exact hkr
          simp -implicitDefEqProofs [t0, t2, t7, t9, hkl]
          refine call_of (TLog_ok c hc hN iX (fun h => by rw [h] at hSat; cases hSat) fun R hR' v9 HY kY gY => ?_)
          rw [hSat] at hR'
          injection hR' with hR'
          obtain ⟨d1, d2⟩ := (hall ⟨0, 0, 0, noS⟩).2 k _ hkr
          rw [hR'] at d1 d2
          have hlg := calm_log hqn.2.2.1 d2 d1.lb (iX.loks R (by rw [← hR']; exact List.getElem_mem _)) (by omega)
          rw [hlg] at gY
          have hvY := ((hv.le hle).le kX).le kY
          simp -implicitDefEqProofs [t0, t2, t7, t9]
          refine call_of (refTexts01_ok c hR (l := l) (m := l) gY.slr hvY (by omega) ?_)
          simp -implicitDefEqProofs [t0, t2, t7, t9, wk]
          exact ⟨n.toNat - (k + 1), by omega, k + 1, by omega, rfl, rfl, kX.trans kY⟩
        · simp -implicitDefEqProofs [t0, t2, t7, t9, hkl]
          refine call_of (TWaiting_ok c hc iX ?_)
          rw [hway]
          simp -implicitDefEqProofs []
          refine call_of (hW _ _ fun H' => ?_)
          simp -implicitDefEqProofs []
          exact hK _
end
end Go.Proofs.YtpbbjfighohokaaI
