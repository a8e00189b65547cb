/- Agreement: who accepted what, what was asked for, who led; what of it lasts. / Agreement: what each node and each note is right about; it lasts. / Agreement: what each turn of a node leaves right. / Agreement: it leads, proposes, fills. / Agreement: promises are counted; what is missing is filled. / Agreement: each deed leaves it right; of two logs one is a beginning of the other one. / Nodes, and notes under way: of two logs one is a beginning of the other one (the walk). -/
import Derived.Test.YtpbbjfighohokaaTroM
namespace Go.Proofs.YtpbbjfighohokaaI
set_option linter.unusedSimpArgs false
set_option linter.unusedVariables false
open Go

def bal (a n : Int) : Int := a * 8 + n
def balV (v : VoteD) : Int := bal v.a v.n
theorem bal_inj {a n b m : Int} (h : validB a n = true) (k : validB b m = true) (e : bal a n = bal b m) : a = b ∧ n = m := by
  have h := validB_iff.1 h
  have k := validB_iff.1 k
  unfold bal at e
  omega
theorem cmp_bal {a n b m : Int} (h : validB a n = true) (k : validB b m = true) : (cmpB a n b m < 0 ↔ bal a n < bal b m) ∧ (0 < cmpB a n b m ↔ bal b m < bal a n) := by
  have h := validB_iff.1 h
  have k := validB_iff.1 k
  rw [cmpB_lt, cmpB_gt]
  unfold bal
  omega

/-! ### quorums -/
def Quo (N : Int) (W : Nat → Prop) : Prop := ∃ l : List Nat, l.Nodup ∧ (∀ q ∈ l, (q : Int) < N ∧ W q) ∧ quorumI N ≤ l.length
theorem Quo.mono {N : Int} {W W' : Nat → Prop} (h : Quo N W) (k : ∀ q, W q → W' q) : Quo N W' := by
  obtain ⟨l, h1, h2, h3⟩ := h
  exact ⟨l, h1, fun q hq => ⟨(h2 q hq).1, k q (h2 q hq).2⟩, h3⟩
theorem nodup_le : ∀ (n : Nat) (l : List Nat), l.Nodup → (∀ q ∈ l, q < n) → l.length ≤ n
  | 0, l, _, h => by
    cases l with
    | nil => exact Nat.le_refl _
    | cons x l => have := h x (by simp); omega
  | n + 1, l, hd, h => by
    have h1 : (l.erase n).length ≤ n := nodup_le n (l.erase n) (hd.erase n) fun q hq => by
      have := (List.Nodup.mem_erase_iff hd).1 hq
      have := h q this.2
      omega
    rw [List.length_erase] at h1
    split at h1 <;> omega
theorem Quo.meet {N : Int} (hN : quorumI N ≠ 0) {W W' : Nat → Prop} (h : Quo N W) (k : Quo N W') : ∃ q, W q ∧ W' q := by
  obtain ⟨l, h1, h2, h3⟩ := h
  obtain ⟨m, k1, k2, k3⟩ := k
  have hq := quorumI_ne hN
  have h2q : N < 2 * quorumI N := by
    unfold quorumI
    rw [if_neg (by omega)]
    have : N = 1 ∨ N = 2 ∨ N = 3 ∨ N = 4 ∨ N = 5 ∨ N = 6 ∨ N = 7 := by omega
    rcases this with rfl | rfl | rfl | rfl | rfl | rfl | rfl <;> decide
  refine Classical.byContradiction fun hne => ?_
  have hdis : ∀ q ∈ l, ∀ q' ∈ m, q ≠ q' := fun q hq q' hq' e => hne ⟨q, (h2 q hq).2, e ▸ (k2 q' hq').2⟩
  have hnd : (l ++ m).Nodup := List.nodup_append.2 ⟨h1, k1, hdis⟩
  have := nodup_le N.toNat (l ++ m) hnd fun q hq => by
    rcases List.mem_append.1 hq with hq | hq
    · have := (h2 q hq).1; omega
    · have := (k2 q hq).1; omega
  rw [List.length_append] at this
  omega

/-! ### what is known -/
structure Gh where
  acc : Nat → VoteD → Prop
  ask : VoteD → Prop
  led : Int → Int → Int → Prop
  pro : Nat → Int
def Safe (g : Gh) (N : Int) (v : VoteD) : Prop := ∀ b, b < balV v → Quo N fun q => (∃ w, g.acc q w ∧ w.slot = v.slot ∧ balV w = b ∧ w.val = v.val) ∨ (b < g.pro q ∧ ∀ w, g.acc q w → w.slot = v.slot → balV w ≠ b)
structure Gh.ok (g : Gh) (N : Int) : Prop where
  accd : ∀ q v, g.acc q v → g.ask v ∧ balV v ≤ g.pro q
  askd : ∀ v, g.ask v → validB v.a v.n = true ∧ v.n < N ∧ balV v ≤ g.pro v.n.toNat ∧ Safe g N v
  fits : ∀ v, g.ask v → v.slot < 1024 ∧ v.val.size ≤ 4096
  one : ∀ v w, g.ask v → g.ask w → v.slot = w.slot → balV v = balV w → v = w
  ledd : ∀ a n s, g.led a n s → validB a n = true ∧ n < N ∧ bal a n ≤ g.pro n.toNat
  led1 : ∀ a n s s', g.led a n s → g.led a n s' → s = s'
/-- More is known. -/
structure Mor (g g' : Gh) : Prop where
  acc : ∀ q v, g.acc q v → g'.acc q v
  ask : ∀ v, g.ask v → g'.ask v
  led : ∀ a n s, g.led a n s → g'.led a n s
  pro : ∀ q, g.pro q ≤ g'.pro q
  new : ∀ q v, g'.acc q v → g.acc q v ∨ g.pro q ≤ balV v
theorem Mor.refl (g : Gh) : Mor g g := ⟨fun _ _ h => h, fun _ h => h, fun _ _ _ h => h, fun _ => Int.le_refl _, fun _ _ h => .inl h⟩
theorem Safe.ext {g g' : Gh} {N : Int} {v : VoteD} (h : Safe g N v) (e : Mor g g') : Safe g' N v := fun b hb => (h b hb).mono fun q hq => by
  rcases hq with ⟨w, h1, h2⟩ | ⟨h1, h2⟩
  · exact .inl ⟨w, e.acc q w h1, h2⟩
  · refine .inr ⟨by have := e.pro q; omega, fun w hw hs hb => ?_⟩
    rcases e.new q w hw with z | z
    · exact h2 w z hs hb
    · omega
def Cho (g : Gh) (N : Int) (s : Int) (x : ByteArray) : Prop := ∃ v, v.slot = s ∧ v.val = x ∧ Quo N fun q => g.acc q v
theorem Cho.ext {g g' : Gh} {N s : Int} {x : ByteArray} (h : Cho g N s x) (e : Mor g g') : Cho g' N s x := by
  obtain ⟨v, h1, h2, h3⟩ := h
  exact ⟨v, h1, h2, h3.mono fun q => e.acc q v⟩
theorem Cho.uniq {g : Gh} {N s : Int} {x y : ByteArray} (hN : quorumI N ≠ 0) (ho : g.ok N) (h : Cho g N s x) (k : Cho g N s y) : x = y := by
  obtain ⟨v, rfl, rfl, h3⟩ := h
  obtain ⟨w, e, rfl, k3⟩ := k
  have key : ∀ v w : VoteD, w.slot = v.slot → Quo N (fun q => g.acc q v) → Quo N (fun q => g.acc q w) → balV v ≤ balV w → v.val = w.val := by
    intro v w e h3 k3 hle
    obtain ⟨q, q1, q2⟩ := h3.meet hN k3
    have a1 := (ho.accd q v q1).1
    have a2 := (ho.accd q w q2).1
    by_cases hb : balV v = balV w
    · rw [ho.one v w a1 a2 e.symm hb]
    · obtain ⟨p, p1, p2⟩ := h3.meet hN ((ho.askd w a2).2.2.2 (balV v) (by omega))
      rcases p2 with ⟨u, u1, u2, u3, u4⟩ | ⟨_, u2⟩
      · have := ho.one v u a1 (ho.accd p u u1).1 (by rw [u2, e]) u3.symm
        rw [this]; exact u4
      · exact absurd rfl (u2 v p1 e.symm)
  by_cases hle : balV v ≤ balV w
  · exact key v w e h3 k3 hle
  · exact (key w v e.symm k3 h3 (by omega)).symm
end Go.Proofs.YtpbbjfighohokaaI
namespace Go.Proofs.YtpbbjfighohokaaI
set_option linter.unusedSimpArgs false
set_option linter.unusedVariables false
open Go

/-- What an acceptor answered. -/
def Pr (g : Gh) (b fr : Int) (best : Int → Option VoteD) (q : Nat) : Prop := b ≤ g.pro q ∧ ∀ v, g.acc q v → balV v < b → fr ≤ v.slot → ∃ w, best v.slot = some w ∧ balV v ≤ balV w
structure PG (g : Gh) (N : Int) (i : Nat) (P : Pro) : Prop where
  own : P.does ≠ 0 → P.bn = i ∧ g.led P.ba P.bn P.fr
  best : ∀ s w, P.best s = some w → w.slot = s ∧ g.ask w ∧ (P.does = 1 → balV w < bal P.ba P.bn)
  one : P.does = 1 → P.filled = false ∧ (∀ v, g.ask v → balV v ≠ bal P.ba P.bn) ∧ ∀ q, q < 7 → P.who q = true → (q : Int) < N ∧ Pr g (bal P.ba P.bn) P.fr P.best q
  two : P.does = 2 → (∀ v, g.ask v → balV v = bal P.ba P.bn → v.slot < P.next) ∧ Quo N fun q => bal P.ba P.bn ≤ g.pro q ∧ ∀ v, g.acc q v → balV v < bal P.ba P.bn → v.slot < P.next
structure AG (g : Gh) (i : Nat) (A : Acc) : Prop where
  base : A.base = 0
  pro : g.pro i = bal A.pa A.pn
  acc : ∀ v ∈ A.L, g.acc i v
  all : ∀ v, g.acc i v → ∃ w ∈ A.L, w.slot = v.slot ∧ balV v ≤ balV w
structure LG (g : Gh) (N : Int) (L : Lr) : Prop where
  base : L.base = 0
  votes : ∀ s f v, L.votes (s, f) = some v → v.slot = s ∧ ∃ q : Nat, f = q ∧ g.acc q v
  told : ∀ s x, L.told s = some x → Cho g N s x
structure NodeG (g : Gh) (N : Int) (i : Nat) (R : Rp) : Prop where
  a : AG g i R.A
  p : PG g N i R.P
  l : LG g N R.L
def NoteG (g : Gh) (N : Int) (y : NoteD) : Prop :=
  (y.kind = 1 → g.led y.ba y.bn y.slot) ∧
  (y.kind = 2 → ∃ (q : Nat) (s : Int), y.fr = q ∧ g.led y.ba y.bn s ∧ bal y.ba y.bn ≤ g.pro q ∧ (∀ w ∈ y.votes, g.acc q w ∧ balV w ≤ bal y.ba y.bn) ∧ ∀ v, g.acc q v → balV v < bal y.ba y.bn → s ≤ v.slot → ∃ w ∈ y.votes, w.slot = v.slot ∧ balV v ≤ balV w) ∧
  (y.kind = 3 → ∀ v ∈ y.votes, g.ask v) ∧
  (y.kind = 4 → ∃ q : Nat, y.fr = q ∧ ∀ v ∈ y.votes, g.acc q v) ∧
  (y.kind = 6 → ∀ v ∈ y.votes, Cho g N v.slot v.val)
/-- More is known, by node i. -/
structure MorI (i : Nat) (g g' : Gh) : Prop where
  mor : Mor g g'
  pro : ∀ j, j ≠ i → g'.pro j = g.pro j
  acc : ∀ j v, j ≠ i → g'.acc j v → g.acc j v
  ask : ∀ v, g'.ask v → g.ask v ∨ v.n = i
theorem MorI.refl (i : Nat) (g : Gh) : MorI i g g := ⟨Mor.refl g, fun _ _ => rfl, fun _ _ _ h => h, fun _ h => .inl h⟩
theorem Pr.mor {g g' : Gh} {b fr : Int} {best : Int → Option VoteD} {q : Nat} (h : Pr g b fr best q) (e : Mor g g') : Pr g' b fr best q := by
  refine ⟨Int.le_trans h.1 (e.pro q), fun v hv hb hs => ?_⟩
  rcases e.new q v hv with z | z
  · exact h.2 v z hb hs
  · have := h.1; omega
theorem LG.mor {g g' : Gh} {N : Int} {L : Lr} (h : LG g N L) (e : Mor g g') : LG g' N L :=
  ⟨h.base, fun s f v hv => by obtain ⟨a, q, b, d⟩ := h.votes s f v hv; exact ⟨a, q, b, e.acc q v d⟩, fun s x hx => (h.told s x hx).ext e⟩
theorem NoteG.mor {g g' : Gh} {N : Int} {y : NoteD} (h : NoteG g N y) (e : Mor g g') : NoteG g' N y := by
  obtain ⟨h1, h2, h3, h4, h6⟩ := h
  refine ⟨fun k => e.led _ _ _ (h1 k), fun k => ?_, fun k v hv => e.ask v (h3 k v hv), fun k => ?_, fun k v hv => (h6 k v hv).ext e⟩
  · obtain ⟨q, s, a1, a2, a3, a4, a5⟩ := h2 k
    refine ⟨q, s, a1, e.led _ _ _ a2, Int.le_trans a3 (e.pro q), fun w hw => ⟨e.acc q w (a4 w hw).1, (a4 w hw).2⟩, fun v hv hb hs => ?_⟩
    rcases e.new q v hv with z | z
    · exact a5 v z hb hs
    · omega
  · obtain ⟨q, a1, a2⟩ := h4 k
    exact ⟨q, a1, fun v hv => e.acc q v (a2 v hv)⟩
/-- Its ballot is valid. -/
theorem PG.valid {g : Gh} {N : Int} {i : Nat} {P : Pro} (h : PG g N i P) (ho : g.ok N) (hd : P.does ≠ 0) : validB P.ba P.bn = true := (ho.ledd _ _ _ (h.own hd).2).1
theorem PG.other {g g' : Gh} {N : Int} {i j : Nat} {P : Pro} (h : PG g N j P) (hj : j ≠ i) (e : MorI i g g') (ho : g'.ok N) : PG g' N j P := by
  have hask : P.does ≠ 0 → ∀ v, g'.ask v → balV v = bal P.ba P.bn → g.ask v := fun hd v hv hb => by
    rcases e.ask v hv with z | z
    · exact z
    · exfalso
      obtain ⟨o1, o2⟩ := h.own hd
      have := (bal_inj (ho.askd v hv).1 (ho.ledd _ _ _ (e.mor.led _ _ _ o2)).1 hb).2
      omega
  refine ⟨fun hd => ⟨(h.own hd).1, e.mor.led _ _ _ (h.own hd).2⟩, fun s w hw => ⟨(h.best s w hw).1, e.mor.ask w (h.best s w hw).2.1, (h.best s w hw).2.2⟩, fun hd => ?_, fun hd => ?_⟩
  · obtain ⟨a1, a2, a3⟩ := h.one hd
    exact ⟨a1, fun v hv hb => a2 v (hask (by omega) v hv hb) hb, fun q hq hw => ⟨(a3 q hq hw).1, (a3 q hq hw).2.mor e.mor⟩⟩
  · obtain ⟨a1, a2⟩ := h.two hd
    refine ⟨fun v hv hb => a1 v (hask (by omega) v hv hb) hb, a2.mono fun q hq => ⟨Int.le_trans hq.1 (e.mor.pro q), fun v hv hb => ?_⟩⟩
    rcases e.mor.new q v hv with z | z
    · exact hq.2 v z hb
    · have := hq.1; omega
theorem NodeG.other {g g' : Gh} {N : Int} {i j : Nat} {R : Rp} (h : NodeG g N j R) (hj : j ≠ i) (e : MorI i g g') (ho : g'.ok N) : NodeG g' N j R :=
  ⟨⟨h.a.base, (e.pro j hj).trans h.a.pro, fun v hv => e.mor.acc j v (h.a.acc v hv), fun v hv => h.a.all v (e.acc j v hj hv)⟩, h.p.other hj e ho, h.l.mor e.mor⟩
/-- All is right. -/
structure Good (g : Gh) (N : Int) (S : Tp) : Prop where
  ok : g.ok N
  node : ∀ (i : Nat) (R : Rp), S.R[i]? = some R → NodeG g N i R
  note : ∀ y ∈ S.way, NoteG g N y
/-- A node's turn. -/
theorem Good.say {g g' : Gh} {N : Int} {S : Tp} (h : Good g N S) {i : Nat} {R : Rp} {r : Rp × List NoteD} (hi : S.R[i]? = some R) (e : MorI i g g') (ho : g'.ok N) (hr : NodeG g' N i r.1) (hn : ∀ y ∈ r.2, NoteG g' N y) : Good g' N (S.say i r) := by
  refine ⟨ho, fun j Q hj => ?_, fun y hy => ?_⟩
  · unfold Tp.say at hj
    simp only at hj
    by_cases he : i = j
    · subst he
      rw [List.getElem?_set_self (List.getElem?_eq_some_iff.1 hi).1] at hj
      injection hj with hj
      subst hj
      exact hr
    · rw [List.getElem?_set_ne he] at hj
      exact (h.node j Q hj).other (Ne.symm he) e ho
  · rcases List.mem_append.1 (show y ∈ S.way ++ _ from hy) with hy | hy
    · exact (h.note y hy).mor e.mor
    · exact hn y (List.mem_of_mem_take hy)
end Go.Proofs.YtpbbjfighohokaaI
namespace Go.Proofs.YtpbbjfighohokaaI
set_option linter.unusedSimpArgs false
set_option linter.unusedVariables false
open Go
set_option linter.unusedSectionVars false

def Tur (g : Gh) (N : Int) (i : Nat) (r : Rp × List NoteD) : Prop := ∃ g', MorI i g g' ∧ g'.ok N ∧ NodeG g' N i r.1 ∧ ∀ y ∈ r.2, NoteG g' N y
theorem Tur.same {g : Gh} {N : Int} {i : Nat} {r : Rp × List NoteD} (ho : g.ok N) (h : NodeG g N i r.1) (hn : ∀ y ∈ r.2, NoteG g N y) : Tur g N i r := ⟨g, .refl i g, ho, h, hn⟩
/-- A promise is given. -/
def Gh.up (g : Gh) (i : Nat) (b : Int) : Gh := { g with pro := fun q => if q = i then b else g.pro q }
theorem Gh.up_mor {g : Gh} {i : Nat} {b : Int} (h : g.pro i ≤ b) : MorI i g (g.up i b) := by
  refine ⟨⟨fun _ _ h => h, fun _ h => h, fun _ _ _ h => h, fun q => ?_, fun _ _ h => .inl h⟩, fun j hj => if_neg hj, fun _ _ _ h => h, fun _ h => .inl h⟩
  show g.pro q ≤ if q = i then b else g.pro q
  split
  · rename_i e; rw [e]; exact h
  · exact Int.le_refl _
theorem Gh.up_ok {g : Gh} {N : Int} {i : Nat} {b : Int} (ho : g.ok N) (h : g.pro i ≤ b) : (g.up i b).ok N := by
  have e := (Gh.up_mor h).mor
  exact ⟨fun q v hv => ⟨(ho.accd q v hv).1, Int.le_trans (ho.accd q v hv).2 (e.pro q)⟩, fun v hv => ⟨(ho.askd v hv).1, (ho.askd v hv).2.1, Int.le_trans (ho.askd v hv).2.2.1 (e.pro _), (ho.askd v hv).2.2.2.ext e⟩, ho.fits, ho.one, fun a n s hs => ⟨(ho.ledd a n s hs).1, (ho.ledd a n s hs).2.1, Int.le_trans (ho.ledd a n s hs).2.2 (e.pro _)⟩, ho.led1⟩
/-- The same was asked for. -/
theorem PG.mor {g g' : Gh} {N : Int} {i : Nat} {P : Pro} (h : PG g N i P) (e : Mor g g') (ha : ∀ v, g'.ask v → g.ask v) : PG g' N i P := by
  refine ⟨fun hd => ⟨(h.own hd).1, e.led _ _ _ (h.own hd).2⟩, fun s w hw => ⟨(h.best s w hw).1, e.ask w (h.best s w hw).2.1, (h.best s w hw).2.2⟩, fun hd => ?_, fun hd => ?_⟩
  · obtain ⟨a1, a2, a3⟩ := h.one hd
    exact ⟨a1, fun v hv hb => a2 v (ha v hv) hb, fun q hq hw => ⟨(a3 q hq hw).1, (a3 q hq hw).2.mor e⟩⟩
  · obtain ⟨a1, a2⟩ := h.two hd
    refine ⟨fun v hv hb => a1 v (ha v hv) hb, a2.mono fun q hq => ⟨Int.le_trans hq.1 (e.pro q), fun v hv hb => ?_⟩⟩
    rcases e.new q v hv with z | z
    · exact hq.2 v z hb
    · have := hq.1; omega
theorem PG.zero {g : Gh} {N : Int} {i : Nat} {P : Pro} (hd : P.does = 0) (hb : ∀ s w, P.best s = some w → w.slot = s ∧ g.ask w) : PG g N i P :=
  ⟨fun h => absurd hd h, fun s w hw => ⟨(hb s w hw).1, (hb s w hw).2, fun h => by omega⟩, fun h => by omega, fun h => by omega⟩
theorem PG.step {g : Gh} {N : Int} {i : Nat} {P : Pro} (h : PG g N i P) (a n : Int) : PG g N i (P.step a n).1 := by
  unfold Pro.step
  split
  · exact h
  · exact .zero rfl fun s w hw => ⟨(h.best s w hw).1, (h.best s w hw).2.1⟩
theorem may_bal {A : Acc} (hA : AccOk A) {a n : Int} (h : A.may a n = true) : validB a n = true ∧ bal A.pa A.pn ≤ bal a n := by
  unfold Acc.may at h
  simp only [Bool.and_eq_true, decide_eq_true_eq] at h
  refine ⟨h.1, ?_⟩
  have := (cmp_bal h.1 hA.2.2.1).1
  omega
theorem AG.up {g : Gh} {i : Nat} {A : Acc} (h : AG g i A) (a n : Int) : AG (g.up i (bal a n)) i { A with pa := a, pn := n } :=
  ⟨h.base, if_pos rfl, h.acc, h.all⟩

theorem cnt_list (m : Int × Int → Option VoteD) (v : VoteD) : ∀ k : Nat, ∃ l : List Nat, l.Nodup ∧ (∀ q ∈ l, q < k ∧ m (v.slot, (q : Int)) = some v) ∧ l.length = cnt m v k
  | 0 => ⟨[], List.nodup_nil, by simp, rfl⟩
  | k + 1 => by
    obtain ⟨l, h1, h2, h3⟩ := cnt_list m v k
    by_cases hk : m (v.slot, (k : Int)) = some v
    · refine ⟨k :: l, List.nodup_cons.2 ⟨fun hh => by have := (h2 k hh).1; omega, h1⟩, fun q hq => ?_, ?_⟩
      · rcases List.mem_cons.1 hq with rfl | hq
        · exact ⟨by omega, hk⟩
        · exact ⟨by have := (h2 q hq).1; omega, (h2 q hq).2⟩
      · rw [List.length_cons, h3, cnt, if_pos hk]
    · exact ⟨l, h1, fun q hq => ⟨by have := (h2 q hq).1; omega, (h2 q hq).2⟩, by rw [h3, cnt, if_neg hk, Nat.add_zero]⟩
theorem votesFrom_get (s : Int) : ∀ (l : List ByteArray) (i : Nat) (v : VoteD), v ∈ votesFrom s i l → ∃ (j : Nat) (x : ByteArray), l[j]? = some x ∧ v.slot = s + ((i + j : Nat) : Int) ∧ v.val = x
  | [], _, v, hv => by cases hv
  | x :: l, i, v, hv => by
    simp only [votesFrom, List.mem_cons] at hv
    rcases hv with rfl | hv
    · exact ⟨0, x, rfl, rfl, rfl⟩
    · obtain ⟨j, y, h1, h2, h3⟩ := votesFrom_get s l (i + 1) v hv
      exact ⟨j + 1, y, h1, by rw [h2]; omega, h3⟩
theorem logL_get {L : Lr} (hL : L.ok) {u : Int} {j : Nat} {x : ByteArray} (h : (logL L u)[j]? = some x) (hu : L.base ≤ u) : L.told (u + j) = some x := by
  unfold logL at h
  rw [if_neg (by omega)] at h
  have hj : j < (nextL L - u).toNat := by
    refine Classical.byContradiction fun hh => ?_
    rw [List.getElem?_eq_none (by simp; omega)] at h
    cases h
  rw [List.getElem?_map, List.getElem?_range hj] at h
  simp only [Option.map_some, Option.some.injEq] at h
  have := (nextL_ok hL).2.2.2 (u + j) (by omega) (by omega)
  cases ht : L.told (u + j) with
  | none => exact absurd ht this
  | some y => rw [ht] at h; simp at h; rw [h]

section
variable {g : Gh} {N : Int} {i : Nat} {R : Rp} (ho : g.ok N) (h : NodeG g N i R) (hR : R.ok) (hn : R.n = N) (hm : R.me = i)
include ho h

include hR in
theorem turn_crash : Tur g N i (R.crash, []) := by
  refine .same ho ⟨h.a, .zero rfl fun s w hw => (by cases hw), ?_⟩ (by intro y hy; cases hy)
  have hb : R.A.base.toNat = 0 := by rw [h.a.base]; rfl
  show LG g N ((tellE ⟨R.n, 0, fun _ => none, fun _ => none⟩ R.A.base.toNat).trim (trimTo (tellE ⟨R.n, 0, fun _ => none, fun _ => none⟩ R.A.base.toNat) R.A.base))
  rw [hb, h.a.base]
  refine ⟨?_, fun s f v hv => (by cases hv), fun s x hx => ?_⟩
  · have hok : (⟨R.n, 0, fun _ => none, fun _ => none⟩ : Lr).ok := by
      have h1 := quorumI_ne hR.1.1
      have h2 := hR.2.1
      exact ⟨by show 1 ≤ R.n; omega, by show R.n ≤ 7; omega, Int.le_refl _, by show (0 : Int) ≤ 1024; omega, fun s hs => absurd rfl hs⟩
    have h0 : 0 ≤ nextL ⟨R.n, 0, fun _ => none, fun _ => none⟩ := (nextL_ok hok).1
    show trimTo ⟨R.n, 0, fun _ => none, fun _ => none⟩ 0 = 0
    unfold trimTo
    rw [if_neg (show ¬ nextL ⟨R.n, 0, fun _ => none, fun _ => none⟩ < 0 by omega)]
    simp
  · exfalso
    have key : ∀ (b : Prop) [Decidable b], (if b then (none : Option ByteArray) else none) ≠ some x := by intro b _; split <;> simp
    exact key _ hx
theorem turn_hear {x : NoteD} (hL : R.L.n = N) (hq : quorumI N ≠ 0) (hk : x.kind = 4) (hl : x.votes.length = 1) (hx : NoteG g N x) : Tur g N i ({ R with L := (R.L.hear x.fr (headV x.votes)).1 }, []) := by
  refine .same ho ⟨h.a, h.p, ?_⟩ (by intro y hy; cases hy)
  obtain ⟨q, hq1, hq2⟩ := hx.2.2.2.1 hk
  have hacc := hq2 _ (headV_mem hl)
  obtain ⟨v, hv⟩ : ∃ v, v = headV x.votes := ⟨_, rfl⟩
  show LG g N (R.L.hear x.fr (headV x.votes)).1
  rw [← hv] at hacc ⊢
  have hvote : LG g N (R.L.vote x.fr v) := by
    refine ⟨h.l.base, fun s f w hw => ?_, h.l.told⟩
    simp only [Lr.vote] at hw
    split at hw
    · rename_i e
      simp only [Prod.mk.injEq] at e
      injection hw with hw
      subst hw
      exact ⟨e.1, q, by rw [← e.2]; exact hq1, hacc⟩
    · exact h.l.votes s f w hw
  unfold Lr.hear
  split
  · split
    · exact hvote
    · rename_i hc
      have hcho : Cho g N v.slot v.val := by
        refine ⟨v, rfl, rfl, ?_⟩
        obtain ⟨l, l1, l2, l3⟩ := cnt_list (R.L.vote x.fr v).votes v R.L.n.toNat
        refine ⟨l, l1, fun p hp => ⟨by have := (l2 p hp).1; omega, ?_⟩, by rw [l3, ← hL]; exact Int.not_lt.1 hc⟩
        obtain ⟨_, q', e, ha⟩ := hvote.votes _ _ _ (l2 p hp).2
        have : p = q' := by omega
        rw [this]; exact ha
      refine ⟨hvote.base, fun s f w hw => ?_, fun s y hy => ?_⟩
      · simp only [Lr.tell] at hw
        split at hw
        · cases hw
        · exact hvote.votes s f w hw
      · simp only [Lr.tell] at hy
        split at hy
        · rename_i e; injection hy with hy; rw [← hy, ← e]; exact hcho
        · exact hvote.told s y hy
  · exact h.l
theorem turn_tells {x : NoteD} (hk : x.kind = 6) (hx : NoteG g N x) : Tur g N i ({ R with L := tells R.L x.votes }, []) := by
  refine .same ho ⟨h.a, h.p, ?_⟩ (by intro y hy; cases hy)
  have hv := hx.2.2.2.2 hk
  show LG g N (tells R.L x.votes)
  have key : ∀ (l : List VoteD) (L : Lr), LG g N L → (∀ v ∈ l, Cho g N v.slot v.val) → LG g N (tells L l) := by
    intro l
    induction l with
    | nil => intro L hL _; exact hL
    | cons v l ih =>
      intro L hL hv
      unfold tells
      rw [List.foldl_cons]
      refine ih _ ?_ fun w hw => hv w (by simp [hw])
      split
      · refine ⟨hL.base, fun s f w hw => ?_, fun s y hy => ?_⟩
        · simp only [Lr.tell] at hw
          split at hw
          · cases hw
          · exact hL.votes s f w hw
        · simp only [Lr.tell] at hy
          split at hy
          · rename_i e; injection hy with hy; rw [← hy, ← e]; exact hv v (by simp)
          · exact hL.told s y hy
      · exact hL
  exact key _ _ h.l hv
theorem turn_tell (x : NoteD) (hLo : R.L.ok) : Tur g N i (R, R.tell x) := by
  refine .same ho h fun y hy => ?_
  unfold Rp.tell at hy
  split at hy
  · cases hy
  rename_i hs
  split at hy
  · cases hy
  simp only [List.mem_singleton] at hy
  subst hy
  refine ⟨fun k => by simp at k, fun k => by simp at k, fun k => by simp at k, fun k => by simp at k, fun _ v hv => ?_⟩
  have hv : v ∈ votesFrom x.slot 0 ((logL R.L x.slot).take 8) := hv
  obtain ⟨j, z, z1, z2, z3⟩ := votesFrom_get _ _ _ _ hv
  rw [List.getElem?_take] at z1
  split at z1
  · have := logL_get hLo z1 (by omega)
    rw [Nat.zero_add] at z2
    rw [z2, z3]
    exact h.l.told _ _ this
  · cases z1

include hR hn hm in
theorem turn_prepare {x : NoteD} (hk : x.kind = 1) (hx : NoteG g N x) : Tur g N i (R.prepare x) := by
  have hled := hx.1 hk
  have hp := h.p.step x.ba x.bn
  unfold Rp.prepare
  split
  · exact .same ho ⟨h.a, hp, h.l⟩ (by intro y hy; cases hy)
  by_cases hc : R.A.may x.ba x.bn = false ∨ x.slot < R.A.base
  · have e : R.A.promise x.ba x.bn x.slot = (R.A, [], false) := by unfold Acc.promise; rw [if_pos hc]
    rw [e, if_pos rfl]
    exact .same ho ⟨h.a, hp, h.l⟩ (by intro y hy; cases hy)
  · have e : R.A.promise x.ba x.bn x.slot = ({ R.A with pa := x.ba, pn := x.bn }, fromV R.A.L x.slot, true) := by unfold Acc.promise; rw [if_neg hc]
    rw [e, if_neg (by simp)]
    simp only [not_or, Bool.not_eq_false] at hc
    have hb := may_bal hR.2.2.2.2 hc.1
    have hle : g.pro i ≤ bal x.ba x.bn := by rw [h.a.pro]; exact hb.2
    have em := Gh.up_mor hle
    refine ⟨g.up i (bal x.ba x.bn), em, Gh.up_ok ho hle, ⟨h.a.up x.ba x.bn, hp.mor em.mor fun _ h => h, h.l.mor em.mor⟩, fun y hy => ?_⟩
    simp only [List.mem_singleton] at hy
    subst hy
    refine ⟨fun k => by simp at k, fun _ => ⟨i, x.slot, hm, hled, by show _ ≤ if i = i then _ else _; rw [if_pos rfl]; exact Int.le_refl _, fun w hw => ?_, fun v hv hb' hs => ?_⟩, fun k => by simp at k, fun k => by simp at k, fun k => by simp at k⟩
    · have hw := h.a.acc w (List.mem_filter.1 hw).1
      exact ⟨hw, by have := (ho.accd i w hw).2; show balV w ≤ bal x.ba x.bn; omega⟩
    · obtain ⟨w, w1, w2, w3⟩ := h.a.all v hv
      exact ⟨w, List.mem_filter.2 ⟨w1, by rw [decide_eq_true_eq]; have hs : x.slot ≤ v.slot := hs; omega⟩, w2, w3⟩

include hR hn hm in
theorem turn_accept {x : NoteD} (hk : x.kind = 3) (hl : x.votes.length = 1) (hx : NoteG g N x) : Tur g N i (R.accept (headV x.votes)) := by
  have hask := hx.2.2.1 hk _ (headV_mem hl)
  obtain ⟨v, hv⟩ : ∃ v, v = headV x.votes := ⟨_, rfl⟩
  rw [← hv] at hask ⊢
  have hp := h.p.step v.a v.n
  unfold Rp.accept
  by_cases hc : R.A.may v.a v.n = false ∨ v.slot < R.A.base ∨ 1024 ≤ v.slot ∨ (4096 : Int) < v.val.data.toList.length
  · have e : R.A.accept v = (R.A, false) := by unfold Acc.accept; rw [if_pos hc]
    rw [e]
    exact .same ho ⟨h.a, hp, h.l⟩ (by intro y hy; cases hy)
  · have e : R.A.accept v = ({ R.A with pa := v.a, pn := v.n, L := putV R.A.L v }, true) := by unfold Acc.accept; rw [if_neg hc]
    rw [e]
    simp only [not_or, Bool.not_eq_false] at hc
    have hb := may_bal hR.2.2.2.2 hc.1
    have hle : g.pro i ≤ balV v := by rw [h.a.pro]; exact hb.2
    obtain ⟨g', hg'⟩ : ∃ g' : Gh, g' = { g.up i (balV v) with acc := fun q w => g.acc q w ∨ (q = i ∧ w = v) } := ⟨_, rfl⟩
    have ha' : ∀ q w, g'.acc q w ↔ g.acc q w ∨ (q = i ∧ w = v) := fun q w => by rw [hg']
    have hpro : ∀ q, g'.pro q = if q = i then balV v else g.pro q := fun q => by rw [hg']; rfl
    have hask' : ∀ w, g'.ask w ↔ g.ask w := fun w => by rw [hg']; exact Iff.rfl
    have hled' : ∀ a n s, g'.led a n s ↔ g.led a n s := fun a n s => by rw [hg']; exact Iff.rfl
    have em : MorI i g g' := by
      refine ⟨⟨fun q w hw => (ha' q w).2 (.inl hw), fun w hw => (hask' w).2 hw, fun a n s hs => (hled' a n s).2 hs, fun q => ?_, fun q w hw => ?_⟩, fun j hj => by rw [hpro, if_neg hj], fun j w hj hw => ?_, fun w hw => .inl ((hask' w).1 hw)⟩
      · rw [hpro]; split
        · rename_i e; rw [e]; exact hle
        · exact Int.le_refl _
      · rcases (ha' q w).1 hw with z | ⟨rfl, rfl⟩
        · exact .inl z
        · exact .inr hle
      · rcases (ha' j w).1 hw with z | ⟨z, _⟩
        · exact z
        · exact absurd z hj
    have ho' : g'.ok N := by
      refine ⟨fun q w hw => ?_, fun w hw => ?_, fun w hw => ho.fits w ((hask' w).1 hw), fun a b ha hb => ho.one a b ((hask' a).1 ha) ((hask' b).1 hb), fun a n s hs => ?_, fun a n s s' h1 h2 => ho.led1 a n s s' ((hled' a n s).1 h1) ((hled' a n s').1 h2)⟩
      · rcases (ha' q w).1 hw with z | ⟨rfl, rfl⟩
        · exact ⟨(hask' w).2 (ho.accd q w z).1, Int.le_trans (ho.accd q w z).2 (em.mor.pro q)⟩
        · exact ⟨(hask' w).2 hask, by rw [hpro, if_pos rfl]; exact Int.le_refl _⟩
      · obtain ⟨a1, a2, a3, a4⟩ := ho.askd w ((hask' w).1 hw)
        exact ⟨a1, a2, Int.le_trans a3 (em.mor.pro _), a4.ext em.mor⟩
      · obtain ⟨a1, a2, a3⟩ := ho.ledd a n s ((hled' a n s).1 hs)
        exact ⟨a1, a2, Int.le_trans a3 (em.mor.pro _)⟩
    refine ⟨g', em, ho', ⟨⟨h.a.base, by rw [hpro, if_pos rfl]; rfl, fun w hw => ?_, fun w hw => ?_⟩, hp.mor em.mor fun w hw => (hask' w).1 hw, h.l.mor em.mor⟩, fun y hy => ?_⟩
    · have hw : w ∈ putV R.A.L v := hw
      unfold putV at hw
      simp only [List.mem_append, List.mem_filter, List.mem_cons] at hw
      rcases hw with hw | rfl | hw
      · exact (ha' i w).2 (.inl (h.a.acc w hw.1))
      · exact (ha' i w).2 (.inr ⟨rfl, rfl⟩)
      · exact (ha' i w).2 (.inl (h.a.acc w hw.1))
    · show ∃ u ∈ putV R.A.L v, _
      have hvin : v ∈ putV R.A.L v := by unfold putV; simp
      rcases (ha' i w).1 hw with z | ⟨_, rfl⟩
      · obtain ⟨u, u1, u2, u3⟩ := h.a.all w z
        by_cases hs : w.slot = v.slot
        · exact ⟨v, hvin, hs.symm, by have := (ho.accd i w z).2; omega⟩
        · refine ⟨u, ?_, u2, u3⟩
          unfold putV
          simp only [List.mem_append, List.mem_filter, List.mem_cons, decide_eq_true_eq]
          rcases Int.lt_trichotomy u.slot v.slot with c | c | c
          · exact .inl ⟨u1, c⟩
          · omega
          · exact .inr (.inr ⟨u1, c⟩)
      · exact ⟨w, hvin, rfl, Int.le_refl _⟩
    · have hy : y ∈ allN R (voteN 4 v) := hy
      obtain ⟨j, _, rfl⟩ := allN_mem hy
      refine ⟨fun k => by simp [voteN] at k, fun k => by simp [voteN] at k, fun k => by simp [voteN] at k, fun _ => ⟨i, hm, fun w hw => ?_⟩, fun k => by simp [voteN] at k⟩
      simp only [voteN, List.mem_singleton] at hw
      subst hw
      exact (ha' i w).2 (.inr ⟨rfl, rfl⟩)
end
end Go.Proofs.YtpbbjfighohokaaI
namespace Go.Proofs.YtpbbjfighohokaaI
set_option linter.unusedSimpArgs false
set_option linter.unusedVariables false
open Go
set_option linter.unusedSectionVars false

/-- More is asked for, by one ballot. -/
def Gh.asks (g : Gh) (A : VoteD → Prop) : Gh := { g with ask := fun v => g.ask v ∨ A v }
theorem asks_mor {g : Gh} {i : Nat} {A : VoteD → Prop} (h : ∀ v, A v → v.n = i) : MorI i g (g.asks A) :=
  ⟨⟨fun _ _ h => h, fun _ h => .inl h, fun _ _ _ h => h, fun _ => Int.le_refl _, fun _ _ h => .inl h⟩, fun _ _ => rfl, fun _ _ _ h => h, fun v hv => hv.imp id (h v)⟩
theorem asks_ok {g : Gh} {N : Int} {i : Nat} {A : VoteD → Prop} {a n : Int} (ho : g.ok N) (hv : validB a n = true) (hn : n = i) (hN : n < N) (hp : bal a n ≤ g.pro i) (h1 : ∀ v, A v → v.a = a ∧ v.n = n) (hs : ∀ v, A v → Safe g N v) (hf : ∀ v, A v → v.slot < 1024 ∧ v.val.size ≤ 4096)
    (ho1 : ∀ v w, A v → A w → v.slot = w.slot → v = w) (ho2 : ∀ v w, A v → g.ask w → balV w = bal a n → v.slot ≠ w.slot) : (g.asks A).ok N := by
  have em : Mor g (g.asks A) := (asks_mor (i := i) fun v hv => by rw [← hn]; exact (h1 v hv).2).mor
  have hb : ∀ v, A v → balV v = bal a n := fun v hv => by unfold balV; rw [(h1 v hv).1, (h1 v hv).2]
  refine ⟨fun q v hq => ⟨.inl (ho.accd q v hq).1, (ho.accd q v hq).2⟩, fun v hv' => ?_, fun v hv' => hv'.elim (ho.fits v) (hf v), fun v w hv' hw hs' hb' => ?_, ho.ledd, ho.led1⟩
  · rcases hv' with z | z
    · obtain ⟨a1, a2, a3, a4⟩ := ho.askd v z
      exact ⟨a1, a2, a3, a4.ext em⟩
    · obtain ⟨e1, e2⟩ := h1 v z
      refine ⟨by rw [e1, e2]; exact hv, by rw [e2]; exact hN, ?_, (hs v z).ext em⟩
      show balV v ≤ g.pro v.n.toNat
      rw [hb v z, e2, hn, Int.toNat_natCast, ← hn]
      exact hp
  · rcases hv' with z | z <;> rcases hw with y | y
    · exact ho.one v w z y hs' hb'
    · exact absurd hs'.symm (ho2 w v y z (by rw [hb', hb w y]))
    · exact absurd hs' (ho2 v w z y (by rw [← hb', hb v z]))
    · exact ho1 v w z y hs'
theorem mod7 {i : Nat} {n : Int} (h : quorumI n ≠ 0) (hi : (i : Int) < n) : (if 6 < (if (0 : Int) > i then 0 else (i : Int)) then (6 : Int) else (if (0 : Int) > i then 0 else (i : Int))) = i := by
  have := quorumI_ne h
  rw [if_neg (show ¬ (0 : Int) > i by omega), if_neg (by omega)]

section
variable {g : Gh} {N : Int} {i : Nat} {R : Rp} (ho : g.ok N) (h : NodeG g N i R) (hR : R.ok) (hn : R.n = N) (hm : R.me = i)
include ho h hR hn hm

theorem turn_lead : Tur g N i R.lead := by
  have hq := hR.1.1
  rw [hR.2.1, hn] at hq
  have hme := hR.1.2.2.1
  rw [hR.2.1, hR.2.2.1, hn, hm] at hme
  unfold Rp.lead
  by_cases he : (R.P.lead R.A.pa R.A.pn (nextL R.L)).2.2 ≠ 0
  · rw [if_pos he]
    exact .same ho h (by intro y hy; cases hy)
  · rw [if_neg he]
    unfold Pro.lead at he ⊢
    by_cases c1 : validB R.A.pa R.A.pn = false ∨ nextL R.L < 0 ∨ 1024 ≤ nextL R.L
    · rw [if_pos c1] at he; exact absurd (by simp) he
    rw [if_neg c1] at he ⊢
    by_cases c2 : 2147483647 ≤ (maxL [(R.A.pa, R.A.pn), (R.P.ba, R.P.bn)]).1
    · rw [if_pos c2] at he; exact absurd (by simp) he
    rw [if_neg c2]
    simp only [not_or, Bool.not_eq_false] at c1
    have hv := validB_iff.1 c1.1
    have hge : R.A.pa ≤ (maxL [(R.A.pa, R.A.pn), (R.P.ba, R.P.bn)]).1 := by
      have := (maxBy_ge [(R.P.ba, R.P.bn)] (R.A.pa, R.A.pn)).1
      unfold cmpBB at this
      rw [cmpB_ge] at this
      rcases this with t | t
      · exact Int.le_of_lt t
      · exact Int.le_of_eq t.1.symm
    obtain ⟨m, hmx⟩ : ∃ m, m = (maxL [(R.A.pa, R.A.pn), (R.P.ba, R.P.bn)]).1 := ⟨_, rfl⟩
    rw [← hmx] at hge c2 ⊢
    have hnb : nextB m R.P.me = (m + 1, (i : Int)) := by
      unfold nextB
      rw [if_neg (by omega), hR.2.2.1, hm, mod7 hq hme]
    rw [hnb]
    have hq7 := quorumI_ne hq
    have hval : validB (m + 1) (i : Int) = true := validB_iff.2 (by omega)
    have hlt : g.pro i < bal (m + 1) i := by rw [h.a.pro]; unfold bal; omega
    obtain ⟨g', hg'⟩ : ∃ g' : Gh, g' = { g.up i (bal (m + 1) i) with led := fun a n s => g.led a n s ∨ (a = m + 1 ∧ n = i ∧ s = nextL R.L) } := ⟨_, rfl⟩
    have ha' : ∀ q w, g'.acc q w ↔ g.acc q w := fun q w => by rw [hg']; exact Iff.rfl
    have hpro : ∀ q, g'.pro q = if q = i then bal (m + 1) i else g.pro q := fun q => by rw [hg']; rfl
    have hask' : ∀ w, g'.ask w ↔ g.ask w := fun w => by rw [hg']; exact Iff.rfl
    have hled' : ∀ a n s, g'.led a n s ↔ g.led a n s ∨ (a = m + 1 ∧ n = i ∧ s = nextL R.L) := fun a n s => by rw [hg']
    have em : MorI i g g' := by
      refine ⟨⟨fun q w hw => (ha' q w).2 hw, fun w hw => (hask' w).2 hw, fun a n s hs => (hled' a n s).2 (.inl hs), fun q => ?_, fun q w hw => .inl ((ha' q w).1 hw)⟩, fun j hj => by rw [hpro, if_neg hj], fun j w _ hw => (ha' j w).1 hw, fun w hw => .inl ((hask' w).1 hw)⟩
      rw [hpro]; split
      · rename_i e; rw [e]; omega
      · exact Int.le_refl _
    have hnew : ∀ a n s, g.led a n s → ¬ (a = m + 1 ∧ n = (i : Int)) := fun a n s hs e => by
      have := (ho.ledd a n s hs).2.2
      rw [e.1, e.2, Int.toNat_natCast] at this
      omega
    have ho' : g'.ok N := by
      refine ⟨fun q w hw => ⟨(hask' w).2 (ho.accd q w ((ha' q w).1 hw)).1, Int.le_trans (ho.accd q w ((ha' q w).1 hw)).2 (em.mor.pro q)⟩, fun w hw => ?_, fun w hw => ho.fits w ((hask' w).1 hw), fun a b ha hb => ho.one a b ((hask' a).1 ha) ((hask' b).1 hb), fun a n s hs => ?_, fun a n s s' h1 h2 => ?_⟩
      · obtain ⟨a1, a2, a3, a4⟩ := ho.askd w ((hask' w).1 hw)
        exact ⟨a1, a2, Int.le_trans a3 (em.mor.pro _), a4.ext em.mor⟩
      · rcases (hled' a n s).1 hs with z | ⟨rfl, rfl, rfl⟩
        · obtain ⟨a1, a2, a3⟩ := ho.ledd a n s z
          exact ⟨a1, a2, Int.le_trans a3 (em.mor.pro _)⟩
        · exact ⟨hval, hme, by rw [hpro, Int.toNat_natCast, if_pos rfl]; exact Int.le_refl _⟩
      · rcases (hled' a n s).1 h1 with z | z <;> rcases (hled' a n s').1 h2 with y | y
        · exact ho.led1 a n s s' z y
        · exact absurd ⟨y.1, y.2.1⟩ (hnew a n s z)
        · exact absurd ⟨z.1, z.2.1⟩ (hnew a n s' y)
        · rw [z.2.2, y.2.2]
    have hnx : 0 ≤ nextL R.L := by omega
    have hmay : ¬ (R.A.may (m + 1) i = false ∨ nextL R.L < R.A.base) := by
      rw [h.a.base]
      simp only [not_or, Bool.not_eq_false]
      refine ⟨?_, by omega⟩
      unfold Acc.may
      rw [hval, Bool.true_and, decide_eq_true_eq, cmpB_ge]
      omega
    refine ⟨g', em, ho', ⟨?_, ?_, h.l.mor em.mor⟩, fun y hy => ?_⟩
    · show AG g' i (R.A.promise (m + 1) i (nextL R.L)).1
      unfold Acc.promise
      rw [if_neg hmay]
      exact ⟨h.a.base, by rw [hpro, if_pos rfl], fun v hv => (ha' i v).2 (h.a.acc v hv), fun v hv => h.a.all v ((ha' i v).1 hv)⟩
    · refine ⟨fun _ => ⟨rfl, (hled' _ _ _).2 (.inr ⟨rfl, rfl, rfl⟩)⟩, fun s w hw => (by cases hw), fun _ => ⟨rfl, fun v hv hb => ?_, fun q _ hw => (by cases hw)⟩, fun hd => (by cases hd)⟩
      have a := ho.askd v ((hask' v).1 hv)
      have hb : bal v.a v.n = bal (m + 1) i := hb
      have e := (bal_inj a.1 hval hb).2
      have := a.2.2.1
      rw [e, Int.toNat_natCast] at this
      have hb2 : balV v = bal (m + 1) i := hb
      omega
    · obtain ⟨j, _, rfl⟩ := allN_mem hy
      exact ⟨fun _ => (hled' _ _ _).2 (.inr ⟨rfl, rfl, rfl⟩), fun k => by simp [prepN] at k, fun k => by simp [prepN] at k, fun k => by simp [prepN] at k, fun k => by simp [prepN] at k⟩

theorem turn_propose {s : ByteArray} (he : (R.propose s).2.2 = 0) : Tur g N i ((R.propose s).1, (R.propose s).2.1) := by
  have hc : ¬ (R.P.propose s).2 ≠ 0 := by
    intro hh; unfold Rp.propose at he; rw [if_pos hh] at he; exact hh he
  have he' : (R.P.propose s).2 = 0 := Classical.byContradiction hc
  have hpp : R.P.proposeV s = ⟨R.P.next, R.P.ba, R.P.bn, s⟩ := by unfold Pro.proposeV; rw [if_pos he']
  have hp : (R.P.propose s).1 = R.P.setNext (R.P.next + 1) ∧ R.P.does = 2 ∧ R.P.next < 1024 ∧ s.size ≤ 4096 := by
    unfold Pro.propose at he' ⊢
    split at he'
    · exact absurd he' (by simp)
    split at he'
    · exact absurd he' (by simp)
    split at he'
    · exact absurd he' (by simp)
    · rename_i a1 a2 a3
      rw [if_neg a1, if_neg a2, if_neg a3]
      exact ⟨rfl, Classical.byContradiction fun hh => a3 hh, by omega, by omega⟩
  have hrp : R.propose s = ({ R with P := R.P.setNext (R.P.next + 1) }, allN R (voteN 3 ⟨R.P.next, R.P.ba, R.P.bn, s⟩), 0) := by
    unfold Rp.propose
    rw [if_neg hc, hp.1, hpp]
  rw [hrp]
  have hd : R.P.does ≠ 0 := by omega
  obtain ⟨o1, o2⟩ := h.p.own hd
  obtain ⟨l1, l2, l3⟩ := ho.ledd _ _ _ o2
  obtain ⟨t1, t2⟩ := h.p.two hp.2.1
  rw [o1, Int.toNat_natCast, ← o1] at l3
  obtain ⟨v, hv⟩ : ∃ v : VoteD, v = ⟨R.P.next, R.P.ba, R.P.bn, s⟩ := ⟨_, rfl⟩
  rw [← hv]
  have vb : balV v = bal R.P.ba R.P.bn := by rw [hv]; rfl
  have vs : v.slot = R.P.next := by rw [hv]
  have em := asks_mor (g := g) (i := i) (A := fun w => w = v) fun w hw => by rw [hw, hv]; exact o1
  have ho' := asks_ok (A := fun w => w = v) (i := i) ho l1 o1 l2 l3 (fun w hw => by rw [hw, hv]; exact ⟨rfl, rfl⟩)
    (fun w hw => by
      subst hw
      intro b hb
      refine t2.mono fun q hq => .inr ⟨by omega, fun u hu hs hb' => ?_⟩
      have := hq.2 u hu (by omega)
      omega)
    (fun w hw => by rw [hw, hv]; exact ⟨hp.2.2.1, hp.2.2.2⟩) (fun a b ha hb _ => by rw [ha, hb]) (fun a w ha hw hb => by
      have := t1 w hw hb
      rw [ha]; omega)
  refine ⟨_, em, ho', ⟨⟨h.a.base, h.a.pro, h.a.acc, h.a.all⟩, ⟨fun _ => ⟨o1, o2⟩, fun s' w hw => ⟨(h.p.best s' w hw).1, .inl (h.p.best s' w hw).2.1, (h.p.best s' w hw).2.2⟩, fun hd1 => ?_, fun _ => ⟨fun w hw hb => ?_, t2.mono fun q hq => ⟨hq.1, fun u hu hb => ?_⟩⟩⟩, h.l.mor em.mor⟩, fun y hy => ?_⟩
  · have : R.P.does = 1 := hd1
    omega
  · show w.slot < R.P.next + 1
    rcases hw with z | z
    · have := t1 w z hb; omega
    · rw [z]; omega
  · show u.slot < R.P.next + 1
    have := hq.2 u hu hb; omega
  · obtain ⟨j, _, rfl⟩ := allN_mem hy
    refine ⟨fun k => by simp [voteN] at k, fun k => by simp [voteN] at k, fun _ w hw => ?_, fun k => by simp [voteN] at k, fun k => by simp [voteN] at k⟩
    simp only [voteN, List.mem_singleton] at hw
    exact .inr hw
end
end Go.Proofs.YtpbbjfighohokaaI
namespace Go.Proofs.YtpbbjfighohokaaI
set_option linter.unusedSimpArgs false
set_option linter.unusedVariables false
open Go
set_option linter.unusedSectionVars false

/-- A vote that may be counted is counted: what is kept is as great. -/
theorem count_grow {P : Pro} (w : VoteD) (hP : ∀ s v, P.best s = some v → v.slot = s ∧ validB v.a v.n = true) : (∀ s v, P.best s = some v → ∃ u, (P.count w).best s = some u ∧ balV v ≤ balV u) ∧
    (P.takes w = true → ∃ u, (P.count w).best w.slot = some u ∧ balV w ≤ balV u) ∧ (∀ s v, (P.count w).best s = some v → P.best s = some v ∨ (v = w ∧ w.slot = s ∧ P.takes w = true)) := by
  unfold Pro.count
  by_cases ht : P.takes w = true
  · rw [if_pos ht]
    have hval : validB w.a w.n = true := by
      unfold Pro.takes at ht
      simp only [Bool.and_eq_true] at ht
      exact ht.2.2.1
    by_cases hb : better (P.best w.slot) w = true
    · rw [if_pos hb]
      have e : ∀ s, (((P.setNext (if w.slot + 1 > P.next then w.slot + 1 else P.next)).setBest w).best s) = if w.slot = s then some w else P.best s := fun s => rfl
      refine ⟨fun s v hv => ?_, fun _ => ⟨w, by rw [e, if_pos rfl], Int.le_refl _⟩, fun s v hv => ?_⟩
      · rw [e]
        by_cases hs : w.slot = s
        · rw [if_pos hs]
          refine ⟨w, rfl, ?_⟩
          rw [hs, hv] at hb
          simp only [better, decide_eq_true_eq] at hb
          have := (cmp_bal hval (hP s v hv).2).2.1 hb
          unfold balV
          omega
        · rw [if_neg hs]; exact ⟨v, hv, Int.le_refl _⟩
      · rw [e] at hv
        split at hv
        · rename_i hs; injection hv with hv; exact .inr ⟨hv.symm, hs, ht⟩
        · exact .inl hv
    · rw [if_neg hb]
      refine ⟨fun s v hv => ⟨v, hv, Int.le_refl _⟩, fun _ => ?_, fun s v hv => .inl hv⟩
      show ∃ u, P.best w.slot = some u ∧ _
      cases hq : P.best w.slot with
      | none => rw [hq] at hb; exact absurd rfl hb
      | some u =>
        refine ⟨u, rfl, ?_⟩
        rw [hq] at hb
        simp only [better, decide_eq_true_eq] at hb
        have := (cmp_bal hval (hP _ u hq).2).2
        unfold balV
        omega
  · rw [if_neg ht]
    exact ⟨fun s v hv => ⟨v, hv, Int.le_refl _⟩, fun h => absurd h ht, fun s v hv => .inl hv⟩
theorem count_fr (P : Pro) (w : VoteD) : (P.count w).fr = P.fr := (count_keep P w).2.2.2.1
theorem takes_count (P : Pro) (w x : VoteD) : (P.count w).takes x = P.takes x := by unfold Pro.takes; rw [count_fr]
theorem counts_grow : ∀ (l : List VoteD) (P : Pro), (∀ s v, P.best s = some v → v.slot = s ∧ validB v.a v.n = true) → (∀ s v, P.best s = some v → ∃ u, (l.foldl Pro.count P).best s = some u ∧ balV v ≤ balV u) ∧
    (∀ w ∈ l, P.takes w = true → ∃ u, (l.foldl Pro.count P).best w.slot = some u ∧ balV w ≤ balV u) ∧ (∀ s v, (l.foldl Pro.count P).best s = some v → P.best s = some v ∨ (v ∈ l ∧ v.slot = s))
  | [], P, _ => ⟨fun s v hv => ⟨v, hv, Int.le_refl _⟩, fun w hw => (by cases hw), fun s v hv => .inl hv⟩
  | w :: l, P, hP => by
    obtain ⟨c1, c2, c3⟩ := count_grow w hP
    have hP' : ∀ s v, (P.count w).best s = some v → v.slot = s ∧ validB v.a v.n = true := fun s v hv => by
      rcases c3 s v hv with z | ⟨rfl, z, ht⟩
      · exact hP s v z
      · unfold Pro.takes at ht
        simp only [Bool.and_eq_true] at ht
        exact ⟨z, ht.2.2.1⟩
    obtain ⟨d1, d2, d3⟩ := counts_grow l (P.count w) hP'
    refine ⟨fun s v hv => ?_, fun x hx ht => ?_, fun s v hv => ?_⟩
    · obtain ⟨u, u1, u2⟩ := c1 s v hv
      obtain ⟨u', v1, v2⟩ := d1 s u u1
      exact ⟨u', v1, by omega⟩
    · rcases List.mem_cons.1 hx with rfl | hx
      · obtain ⟨u, u1, u2⟩ := c2 ht
        obtain ⟨u', v1, v2⟩ := d1 _ u u1
        exact ⟨u', v1, by omega⟩
      · exact d2 x hx (by rw [takes_count]; exact ht)
    · rcases d3 s v hv with z | ⟨z, e⟩
      · rcases c3 s v z with y | ⟨rfl, y, _⟩
        · exact .inl y
        · exact .inr ⟨by simp, y⟩
      · exact .inr ⟨by simp [z], e⟩
theorem cntW_list (f : Nat → Bool) : ∀ k : Nat, ∃ l : List Nat, l.Nodup ∧ (∀ q ∈ l, q < k ∧ f q = true) ∧ l.length = cntW f k
  | 0 => ⟨[], List.nodup_nil, by simp, rfl⟩
  | k + 1 => by
    obtain ⟨l, h1, h2, h3⟩ := cntW_list f k
    by_cases hk : f k = true
    · refine ⟨k :: l, List.nodup_cons.2 ⟨fun hh => by have := (h2 k hh).1; omega, h1⟩, fun q hq => ?_, ?_⟩
      · rcases List.mem_cons.1 hq with rfl | hq
        · exact ⟨by omega, hk⟩
        · exact ⟨by have := (h2 q hq).1; omega, (h2 q hq).2⟩
      · rw [List.length_cons, h3, cntW, if_pos hk]
    · exact ⟨l, h1, fun q hq => ⟨by have := (h2 q hq).1; omega, (h2 q hq).2⟩, by rw [h3, cntW, if_neg hk, Nat.add_zero]⟩
theorem filledL_val2 (P : Pro) : ∀ (k : Nat) (s : Int) (v : VoteD), v ∈ filledL P s k → v = ⟨v.slot, P.ba, P.bn, valOf (P.best v.slot)⟩
  | 0, _, _, h => by cases h
  | k + 1, s, v, h => by
    simp only [filledL, List.mem_cons] at h
    rcases h with rfl | h
    · rfl
    · exact filledL_val2 P k (s + 1) v h

/-- What is filled is safe. -/
theorem safe_fill {g : Gh} {N : Int} (ho : g.ok N) {b fr : Int} {best : Int → Option VoteD} (hb : ∀ s w, best s = some w → w.slot = s ∧ g.ask w ∧ balV w < b) (hQ : Quo N fun q => Pr g b fr best q) {v : VoteD} (hv : balV v = b) (hs : fr ≤ v.slot) (hval : v.val = valOf (best v.slot)) : Safe g N v := by
  intro b' hb'
  cases hw : best v.slot with
  | none =>
    refine hQ.mono fun q hq => .inr ⟨by have := hq.1; omega, fun u hu hus hub => ?_⟩
    obtain ⟨w, w1, _⟩ := hq.2 u hu (by omega) (by omega)
    rw [hus, hw] at w1
    cases w1
  | some w =>
    rw [hw] at hval
    obtain ⟨w1, w2, w3⟩ := hb _ w hw
    rcases Int.lt_trichotomy b' (balV w) with c | c | c
    · have := (ho.askd w w2).2.2.2 b' c
      refine this.mono fun q hq => ?_
      rw [w1] at hq
      rcases hq with ⟨u, u1, u2, u3, u4⟩ | z
      · exact .inl ⟨u, u1, u2, u3, by rw [hval]; exact u4⟩
      · exact .inr z
    · refine hQ.mono fun q hq => ?_
      by_cases hu : ∃ u, g.acc q u ∧ u.slot = v.slot ∧ balV u = b'
      · obtain ⟨u, u1, u2, u3⟩ := hu
        have e := ho.one u w (ho.accd q u u1).1 w2 (by rw [u2, w1]) (by omega)
        exact .inl ⟨u, u1, u2, u3, by rw [hval, e]; rfl⟩
      · exact .inr ⟨by have := hq.1; omega, fun u u1 u2 u3 => hu ⟨u, u1, u2, u3⟩⟩
    · refine hQ.mono fun q hq => .inr ⟨by have := hq.1; omega, fun u hu hus hub => ?_⟩
      obtain ⟨x, x1, x2⟩ := hq.2 u hu (by omega) (by omega)
      rw [hus, hw] at x1
      injection x1 with x1
      subst x1
      omega

section
variable {g : Gh} {N : Int} {i : Nat} {R : Rp} (ho : g.ok N) (h : NodeG g N i R) (hR : R.ok) (hn : R.n = N) (hm : R.me = i)
include ho h hR hn hm

theorem turn_promise {x : NoteD} (hk : x.kind = 2) (hx : NoteG g N x) : Tur g N i (R.promise x) := by
  obtain ⟨q0, s0, x1, x2, x3, x4, x5⟩ := hx.2.1 hk
  have hPo := hR.1.promise x.fr x.ba x.bn x.votes
  have hq := hR.1.1
  rw [hR.2.1, hn] at hq
  have hqn := quorumI_ne hq
  unfold Rp.promise
  unfold Pro.promise at hPo ⊢
  by_cases c1 : R.P.does ≠ 1 ∨ x.fr < 0 ∨ R.P.n ≤ x.fr ∨ ¬ (x.ba = R.P.ba ∧ x.bn = R.P.bn) ∨ R.P.who x.fr.toNat = true
  · rw [if_pos c1, if_pos rfl]
    exact .same ho h (by intro y hy; cases hy)
  rw [if_neg c1] at hPo ⊢
  simp only [not_or, Classical.not_not] at c1
  obtain ⟨d1, d2, d3, ⟨d4, d5⟩, d6⟩ := c1
  have hPn : R.P.n = N := hR.2.1.trans hn
  obtain ⟨P1, hP1⟩ : ∃ P1, P1 = x.votes.foldl Pro.count (R.P.setWho x.fr.toNat) := ⟨_, rfl⟩
  rw [← hP1] at hPo ⊢
  obtain ⟨k1, k2, k3, k4, k5, k6, k7, k8⟩ := counts_keep x.votes (R.P.setWho x.fr.toNat)
  rw [← hP1] at k1 k2 k3 k4 k5 k6 k7 k8
  have k3' : P1.does = R.P.does := k3
  have k4' : P1.fr = R.P.fr := k4
  have k5' : P1.who = setW R.P.who x.fr.toNat := k5
  have k6' : P1.ba = R.P.ba := k6
  have k7' : P1.bn = R.P.bn := k7
  have k8' : P1.filled = R.P.filled := k8
  have hd : R.P.does ≠ 0 := by omega
  obtain ⟨o1, o2⟩ := h.p.own hd
  obtain ⟨l1, l2, l3⟩ := ho.ledd _ _ _ o2
  rw [o1, Int.toNat_natCast, ← o1] at l3
  obtain ⟨p1, p2, p3⟩ := h.p.one d1
  have hs0 : s0 = R.P.fr := by rw [d4, d5] at x2; exact ho.led1 _ _ _ _ x2 o2
  subst hs0
  rw [d4, d5] at x3 x4 x5
  have hPold : ∀ s v, (R.P.setWho x.fr.toNat).best s = some v → v.slot = s ∧ validB v.a v.n = true := fun s v hv => ⟨(h.p.best s v hv).1, (ho.askd v (h.p.best s v hv).2.1).1⟩
  obtain ⟨c2, c3, c4⟩ := counts_grow x.votes (R.P.setWho x.fr.toNat) hPold
  rw [← hP1] at c2 c3 c4
  have hbest : ∀ s w, P1.best s = some w → w.slot = s ∧ g.ask w ∧ balV w < bal R.P.ba R.P.bn := fun s w hw => by
    rcases c4 s w hw with z | ⟨z, e⟩
    · obtain ⟨a1, a2, a3⟩ := h.p.best s w z
      exact ⟨a1, a2, a3 d1⟩
    · obtain ⟨a1, a2⟩ := x4 w z
      have a3 := (ho.accd q0 w a1).1
      exact ⟨e, a3, by have := p2 w a3; omega⟩
  have hPr : ∀ q, q < 7 → P1.who q = true → (q : Int) < N ∧ Pr g (bal R.P.ba R.P.bn) R.P.fr P1.best q := by
    intro q hq7 hwq
    rw [k5'] at hwq
    unfold setW at hwq
    by_cases e : q = x.fr.toNat
    · have eq : q = q0 := by omega
      subst eq
      refine ⟨by omega, x3, fun v hv hb hs => ?_⟩
      obtain ⟨w, w1, w2, w3⟩ := x5 v hv hb hs
      have wa := (ho.accd q w (x4 w w1).1).1
      have wf := ho.fits w wa
      have ht : (R.P.setWho x.fr.toNat).takes w = true := by
        unfold Pro.takes
        simp only [Bool.and_eq_true, decide_eq_true_eq]
        exact ⟨by show R.P.fr ≤ w.slot; omega, wf.1, (ho.askd w wa).1, wf.2⟩
      obtain ⟨u, u1, u2⟩ := c3 w w1 ht
      rw [w2] at u1
      exact ⟨u, u1, by omega⟩
    · rw [if_neg e] at hwq
      obtain ⟨a1, a2, a3⟩ := p3 q hq7 hwq
      refine ⟨a1, a2, fun v hv hb hs => ?_⟩
      obtain ⟨w, w1, w2⟩ := a3 v hv hb hs
      obtain ⟨u, u1, u2⟩ := c2 _ w w1
      exact ⟨u, u1, by omega⟩
  by_cases hc : (cntW (setW R.P.who x.fr.toNat) 7 : Int) < quorumI R.P.n
  · rw [if_pos hc, if_pos rfl]
    refine .same ho ⟨h.a, ⟨fun _ => ⟨by rw [k7']; exact o1, by rw [k6', k7', k4']; exact o2⟩, fun s w hw => ?_, fun _ => ⟨by rw [k8']; exact p1, by rw [k6', k7']; exact p2, by rw [k6', k7', k4']; exact hPr⟩, fun hd2 => ?_⟩, h.l⟩ (by intro y hy; cases hy)
    · obtain ⟨a1, a2, a3⟩ := hbest s w hw
      exact ⟨a1, a2, fun _ => by rw [k6', k7']; exact a3⟩
    · have hd2 : P1.does = 2 := hd2
      rw [k3'] at hd2; omega
  · rw [if_neg hc] at hPo ⊢
    rw [if_neg (by simp), if_neg (by show ¬ P1.filled = true; rw [k8', p1]; simp)]
    obtain ⟨lw, w1, w2, w3⟩ := cntW_list (setW R.P.who x.fr.toNat) 7
    have hQ : Quo N fun q => Pr g (bal R.P.ba R.P.bn) R.P.fr P1.best q := by
      refine ⟨lw, w1, fun q hq => ?_, by rw [w3, ← hPn]; omega⟩
      have := w2 q hq
      exact hPr q this.1 (by rw [k5']; exact this.2)
    obtain ⟨e, hee⟩ : ∃ e, e = endP (P1.setDoes 2) := ⟨_, rfl⟩
    have hPo' : (P1.setDoes 2).ok := hPo
    have hend := endP_bd hPo'
    rw [← hee] at hend
    have hendb : (P1.setDoes 2).fr = R.P.fr ∧ e ≤ P1.next ∧ R.P.fr ≤ e := ⟨k4', hend.2, by rw [← k4']; exact hend.1⟩
    have hnx : P1.next ≤ 1024 := hPo'.2.2.2.2.2.1
    have hbs : ∀ s v, P1.best s = some v → v.slot = s ∧ P1.fr ≤ s ∧ s < P1.next ∧ validB v.a v.n = true ∧ v.val.size ≤ 4096 := hPo'.2.2.2.2.2.2.2
    have hfrn : P1.fr ≤ P1.next := hPo'.2.2.2.2.1
    obtain ⟨A, hA⟩ : ∃ A : VoteD → Prop, A = fun v => v ∈ (P1.setDoes 2).fill e := ⟨_, rfl⟩
    have hAv : ∀ v, A v → v.a = R.P.ba ∧ v.n = R.P.bn ∧ R.P.fr ≤ v.slot ∧ v.slot < e ∧ v = ⟨v.slot, R.P.ba, R.P.bn, valOf (P1.best v.slot)⟩ := fun v hv => by
      rw [hA] at hv
      have m1 := filledL_mem _ _ _ v hv
      have m2 := filledL_val2 _ _ _ v hv
      have e1 : (P1.setDoes 2).ba = R.P.ba := k6'
      have e2 : (P1.setDoes 2).bn = R.P.bn := k7'
      rw [e1, e2] at m1 m2
      have hf : (P1.setDoes 2).fr = R.P.fr := k4'
      rw [hf] at m1
      exact ⟨m1.1, m1.2.1, m1.2.2.1, by omega, m2⟩
    have hAb : ∀ v, A v → balV v = bal R.P.ba R.P.bn := fun v hv => by unfold balV; rw [(hAv v hv).1, (hAv v hv).2.1]
    have em := asks_mor (g := g) (i := i) (A := A) fun w hw => by rw [(hAv w hw).2.1]; exact o1
    have ho' := asks_ok (A := A) (i := i) ho l1 o1 l2 l3 (fun w hw => ⟨(hAv w hw).1, (hAv w hw).2.1⟩)
      (fun w hw => safe_fill ho hbest hQ (hAb w hw) (hAv w hw).2.2.1 (congrArg VoteD.val (hAv w hw).2.2.2.2))
      (fun w hw => ⟨by have := (hAv w hw).2.2.2.1; omega, by
        rw [(hAv w hw).2.2.2.2]
        show (valOf (P1.best w.slot)).size ≤ 4096
        cases hb : P1.best w.slot with
        | none => exact Nat.zero_le _
        | some u => exact (hbs _ u hb).2.2.2.2⟩)
      (fun a b ha hb hs => by rw [(hAv a ha).2.2.2.2, (hAv b hb).2.2.2.2, hs])
      (fun a w ha hw hb => absurd hb (p2 w hw))
    refine ⟨_, em, ho', ⟨⟨h.a.base, h.a.pro, h.a.acc, h.a.all⟩, ⟨fun _ => ⟨by show P1.bn = i; rw [k7']; exact o1, by show g.led P1.ba P1.bn P1.fr; rw [k6', k7', k4']; exact o2⟩, fun s w hw => ?_, fun hd1 => ?_, fun _ => ⟨fun w hw hb => ?_, ?_⟩⟩, h.l.mor em.mor⟩, fun y hy => ?_⟩
    · have hw : P1.best s = some w := hw
      obtain ⟨a1, a2, a3⟩ := hbest s w hw
      exact ⟨a1, .inl a2, fun hd1 => absurd hd1 (by show (2 : Int) ≠ 1; omega)⟩
    · exact absurd hd1 (by show (2 : Int) ≠ 1; omega)
    · show w.slot < P1.next
      have hb : balV w = bal P1.ba P1.bn := hb
      rw [k6', k7'] at hb
      rcases hw with z | z
      · exact absurd hb (p2 w z)
      · have := (hAv w z).2.2.2.1; omega
    · show Quo N fun q => bal P1.ba P1.bn ≤ g.pro q ∧ ∀ v, g.acc q v → balV v < bal P1.ba P1.bn → v.slot < P1.next
      rw [k6', k7']
      refine hQ.mono fun q hq => ⟨hq.1, fun v hv hb => ?_⟩
      by_cases hs : R.P.fr ≤ v.slot
      · obtain ⟨u, u1, _⟩ := hq.2 v hv hb hs
        exact (hbs _ u u1).2.2.1
      · rw [k4'] at hfrn; omega
    · obtain ⟨v, hv, hy⟩ := List.mem_flatMap.1 hy
      obtain ⟨j, _, rfl⟩ := allN_mem hy
      refine ⟨fun k => by simp [voteN] at k, fun k => by simp [voteN] at k, fun _ w hw => ?_, fun k => by simp [voteN] at k, fun k => by simp [voteN] at k⟩
      simp only [voteN, List.mem_singleton] at hw
      subst hw
      refine .inr ?_
      rw [hA, hee]
      exact hv
end
end Go.Proofs.YtpbbjfighohokaaI
namespace Go.Proofs.YtpbbjfighohokaaI
set_option linter.unusedSimpArgs false
set_option linter.unusedVariables false
open Go
set_option linter.unusedSectionVars false

theorem note_none {g : Gh} {N : Int} {y : NoteD} (h : y.kind = 5) : NoteG g N y := by
  refine ⟨fun k => ?_, fun k => ?_, fun k => ?_, fun k => ?_, fun k => ?_⟩ <;> (rw [h] at k; simp at k)
section
variable {g : Gh} {N : Int} {i : Nat} {R : Rp} (ho : g.ok N) (h : NodeG g N i R) (hR : R.ok) (hn : R.n = N) (hm : R.me = i)
include ho h hR hn hm

theorem turn_take (hL : R.L.ok) {x : NoteD} (hx : NoteG g N x) : Tur g N i (R.take x) := by
  have hq := hR.1.1
  rw [hR.2.1, hn] at hq
  have stay : Tur g N i (R, []) := .same ho h (by intro y hy; cases hy)
  unfold Rp.take
  split
  · exact stay
  split
  · exact turn_prepare ho h hR hn hm (by assumption) hx
  split
  · exact turn_promise ho h hR hn hm (by assumption) hx
  split
  · rename_i hk
    exact turn_accept ho h hR hn hm hk.1 hk.2 hx
  split
  · rename_i hk
    exact turn_hear ho h (hR.2.2.2.1.trans hn) hq hk.1 hk.2 hx
  split
  · exact turn_tell ho h x hL
  split
  · exact turn_tells ho h (by assumption) hx
  · exact stay
theorem turn_ask (j : Int) : Tur g N i (R, R.ask j) := by
  refine .same ho h fun y hy => ?_
  unfold Rp.ask at hy
  split at hy
  · simp only [List.mem_singleton] at hy
    subst hy
    exact note_none rfl
  · cases hy
end

/-- All is right; g' knows more. -/
def Go2 (g : Gh) (N : Int) (S : Tp) : Prop := ∃ g', Mor g g' ∧ Good g' N S
theorem Good.turn {g : Gh} {N : Int} {S : Tp} (h : Good g N S) {i : Nat} {R : Rp} {r : Rp × List NoteD} (hi : S.R[i]? = some R) (t : Tur g N i r) : Go2 g N (S.say i r) := by
  obtain ⟨g', e, ho, hr, hn⟩ := t
  exact ⟨g', e.mor, h.say hi e ho hr hn⟩
theorem Good.drop {g : Gh} {N : Int} {S : Tp} (h : Good g N S) (a : Nat) : Good g N (S.drop a) := ⟨h.ok, h.node, fun y hy => h.note y (List.mem_of_mem_eraseIdx hy)⟩
theorem good_do {g : Gh} {N : Int} {S : Tp} (h : Good g N S) (ho : S.ok N) (hLo : ∀ R ∈ S.R, R.L.ok) (d : DeedT) : Go2 g N (S.doD d).1 := by
  have stay : Go2 g N S := ⟨g, Mor.refl g, h⟩
  have at' : ∀ {j : Int} {R : Rp}, S.at j = some R → S.R[j.toNat]? = some R ∧ R.ok ∧ R.n = N ∧ R.me = (j.toNat : Nat) := fun hj => by
    have := (Tp.at_some hj).2.2
    exact ⟨this, ho.node _ _ this⟩
  unfold Tp.doD
  split
  · split
    · exact stay
    · show Go2 g N (S.arrive (S.place d.a))
      unfold Tp.arrive
      split
      · exact stay
      · rename_i x hx
        split
        · exact stay
        · rename_i R hR
          obtain ⟨r1, r2, r3⟩ := ho.node _ R hR
          have hd := h.drop (S.place d.a)
          exact hd.turn hR (turn_take hd.ok (hd.node _ R hR) r1 r2 r3 (hLo R (List.mem_of_getElem? hR)) (h.note x (List.mem_of_getElem? hx)))
  split
  · split
    · exact stay
    · exact ⟨g, Mor.refl g, h.drop _⟩
  split
  · split
    · exact stay
    · show Go2 g N ((S.way[S.place d.a]?).elim S S.double)
      cases hx : S.way[S.place d.a]? with
      | none => exact stay
      | some x =>
        refine ⟨g, Mor.refl g, h.ok, h.node, fun y hy => ?_⟩
        rcases List.mem_append.1 (show y ∈ S.way ++ [x] from hy) with hy | hy
        · exact h.note y hy
        · rw [List.mem_singleton.1 hy]; exact h.note x (List.mem_of_getElem? hx)
  split
  · split
    · exact stay
    · rename_i R hR
      obtain ⟨r0, r1, r2, r3⟩ := at' hR
      exact h.turn r0 (turn_lead h.ok (h.node _ R r0) r1 r2 r3)
  split
  · split
    · exact stay
    · rename_i R hR
      obtain ⟨r0, r1, r2, r3⟩ := at' hR
      split
      · rename_i he
        exact h.turn r0 (turn_propose h.ok (h.node _ R r0) r1 r2 r3 he)
      · exact stay
  split
  · split
    · rename_i R Q hR hQ
      obtain ⟨r0, r1, r2, r3⟩ := at' hR
      exact h.turn r0 (turn_ask h.ok (h.node _ R r0) r1 r2 r3 d.b)
    · exact stay
  split
  · split
    · exact stay
    · rename_i R hR
      obtain ⟨r0, r1, r2, r3⟩ := at' hR
      exact h.turn r0 (turn_crash h.ok (h.node _ R r0) r1)
  · exact stay
def gh0 : Gh := ⟨fun _ _ => False, fun _ => False, fun _ _ _ => False, fun _ => 0⟩
theorem good_new {N : Int} (n : Int) : Good gh0 N (Tp.new n) := by
  refine ⟨⟨fun _ _ h => h.elim, fun _ h => h.elim, fun _ h => h.elim, fun _ _ h => h.elim, fun _ _ _ h => h.elim, fun _ _ _ _ h => h.elim⟩, fun i R hi => ?_, by intro y hy; cases hy⟩
  obtain ⟨j, _, rfl⟩ := List.mem_map.1 (List.mem_of_getElem? hi)
  exact ⟨⟨rfl, rfl, fun v hv => (by cases hv), fun v hv => hv.elim⟩, .zero rfl fun s w hw => (by cases hw), ⟨rfl, fun s f v hv => (by cases hv), fun s x hx => (by cases hx)⟩⟩

/-- A log, as far as it is known. -/
def LogG (g : Gh) (N : Int) (l : List ByteArray) : Prop := ∀ (j : Nat) (x : ByteArray), l[j]? = some x → Cho g N j x
theorem LogG.mor {g g' : Gh} {N : Int} {l : List ByteArray} (h : LogG g N l) (e : Mor g g') : LogG g' N l := fun j x hx => (h j x hx).ext e
theorem Good.log {g : Gh} {N : Int} {S : Tp} (h : Good g N S) {i : Nat} {R : Rp} (hi : S.R[i]? = some R) (hL : R.L.ok) : LogG g N (logL R.L 0) := fun j x hx => by
  have hl := (h.node i R hi).l
  have := logL_get hL hx (by rw [hl.base]; exact Int.le_refl _)
  rw [Int.zero_add] at this
  exact hl.told _ _ this
theorem LogG.agree {g : Gh} {N : Int} (hN : quorumI N ≠ 0) (ho : g.ok N) {a b : List ByteArray} (h : LogG g N a) (k : LogG g N b) {m : Nat} (ha : m ≤ a.length) (hb : m ≤ b.length) : a.take m = b.take m := by
  apply List.ext_getElem?
  intro j
  rw [List.getElem?_take, List.getElem?_take]
  split
  · rename_i hj
    have e1 : a[j]? = some a[j] := List.getElem?_eq_getElem (by omega)
    have e2 : b[j]? = some b[j] := List.getElem?_eq_getElem (by omega)
    rw [e1, e2, (h j _ e1).uniq hN ho (k j _ e2)]
  · rfl
end Go.Proofs.YtpbbjfighohokaaI
namespace Go.Proofs.YtpbbjfighohokaaI
attribute [local simp] J0 J1 J2 J3 J4 J5 J6 J7 J8 J9 Ja Jb Jc Jd Je Jf Jg Jh Ji Jj Jk Jl Jm Jn Jo Jp Jq Jr Js Jt Ju Jv Jw Jx Jy Jz JA JB JC JD JE JF JG JH JI JJ JK JL JM JN JO JP JQ JR JS stillI IOp.kind JT JU JV JW JX JY JZ Y0 Y1 Y2 Y3 Y4 Y5 Y6 Y7 Y8 Y9 Ya Yb Yc Yd Ye Yf Yg Yh Yi Yj Yk Yl Ym Yn Yo Yp Yq ial Yr Ys Yt Yu Yv Yw Yx Yy ires iresL ires1 Yz YA YB YC YD YE bin2 YF YG YH YI YJ YK YL YM YN YO YP YQ YR YS YT YU un1 shOk eqL eq1 fillL putAt IHeap.load1 IHeap.loadL IHeap.storeL YV YW YX YY YZ B0 B1 B2 B3 B4 B5 B6 B7 B8 B9 Ba Bb Bc Bd Be Bf Bg Bh Bi Bj Bk Bl Bm Bn Bo Bp
set_option linter.unusedSimpArgs false
set_option linter.unusedVariables false
open Go

theorem IsT.loks {w : Nat → Nat} {H : IHeap} {t : Nat} {f : FuncId} {S : Tp} (h : IsT w H t f S) : ∀ R ∈ S.R, R.L.ok := fun R hR => by
  obtain ⟨i, hi⟩ := List.getElem?_of_mem hR
  obtain ⟨lb, cap, wv, fv, p, cs, ro, e1, e2, e3, e4, e5⟩ := h.node hi
  exact e5.lok
/-- The longest log. -/
def LongI (w : Nat → Nat) (g : Gh) (n : Int) (H : IHeap) (wv : Value) (HX : IHeap) : Prop :=
  ∃ (lo : List ByteArray) (D : Nat → Prop), SwD D HX 1 wv (lo.map row1) ∧ (∀ b, D b → w b = 0 ∧ H.next ≤ b ∧ b < HX.next) ∧ LogG g n lo ∧ lo.length ≤ 1024
def AgI (n : Int) (t : Nat) (f : FuncId) (H : IHeap) (wv : Value) (H' : IHeap) : Prop :=
  ∃ (w : Nat → Nat) (S : Tp) (g : Gh), H.le H' ∧ (∀ b, w b ≠ 0 → H.next ≤ b) ∧ IsT w H' t f S ∧ S.ok n ∧ Good g n S ∧ LongI w g n H wv H'

section
variable (c : Ctx) (hc : HasTroop c) (hN : NodeC c) (hR : HasRef22 c) (hL : HasLaw22 c) {H : IHeap} {K : Value → IHeap → Prop}

include hc hN hR hL in
theorem agrees_ok22 (hW : ∀ H K, (∀ H', K (.bool true) H') → c.C (c.F n_hurdlelaw22_awake) [] H K) {n : Int} {v : Value} {l : List DeedT} (hv : SlR H 4 v (l.map rowDT)) (hK : ∀ H', K (.bool true) H') :
    c.C (c.F n_hurdlelaw22_TroopAgrees) [.int .i64 n, v] H K := by
  refine c.enter hL.hurdlelaw22_TroopAgrees rfl ?_
  obtain ⟨va, vc, hve⟩ : ∃ a cap, v = .slice a l.length cap := by obtain ⟨a, cap, e, _⟩ := hv; rw [List.length_map] at e; exact ⟨a, cap, e⟩
  simp -implicitDefEqProofs [c_hurdlelaw22_TroopAgrees]
  refine call_of (few_ok c hL hv ?_ fun h200 htx => ?_)
  · simp -implicitDefEqProofs []
    refine call_of (hW _ _ fun H' => ?_)
    simp -implicitDefEqProofs []
    exact hK _
  · simp -implicitDefEqProofs []
    refine call_of (refQuorum_ok c hN.bb ?_)
    by_cases hq : quorumI n = 0
    · simp -implicitDefEqProofs [hq]
      refine call_of (hW _ _ fun H' => ?_)
      simp -implicitDefEqProofs []
      exact hK _
    · simp -implicitDefEqProofs [hq]
      refine call_of (TNew_ok c hc hN (fun h => absurd h hq) fun _ t w0 H1 k1 hw0 i1 => ?_)
      have hqn := quorumI_ne hq
      simp -implicitDefEqProofs []
      refine loop_nat c.mono (fun k T H' => ∃ i : Nat, i ≤ l.length ∧ k = l.length - i ∧ T 0 = .int .i64 n ∧ T 1 = v ∧ T 5 = .pointer (some ⟨t, 0, none⟩) ∧ T 7 = .int .i64 i ∧ AgI n t (c.F n_troop_New_F1) H (T 6) H') l.length ?_ ?_
      · refine ⟨0, by omega, rfl, ?_⟩
        simp -implicitDefEqProofs []
        exact ⟨w0, Tp.new n, gh0, k1, hw0, i1, .new hq, good_new n, [], fun _ => False, SwD.nil _ _ _, fun _ h => h.elim, fun j x hx => by simp at hx, by simp⟩
      · rintro k T H' ⟨i, hi, rfl, t0, t1, t5, t7, w, S, g, hle, hw, hS, ho, hG, lo, D, sw, hD, hlo, hlol⟩
        obtain ⟨wv, t6⟩ : ∃ wv, T 6 = wv := ⟨_, rfl⟩
        rw [t6] at sw
        by_cases hil : i < l.length
        · have hil' : (i : Int) < (l.length : Int) := by omega
          have wi : IntKind.i64.wrap ((i : Int) + 1) = (i : Int) + 1 := wrap64 (by omega) (by omega)
          obtain ⟨d, hd⟩ : ∃ d, l[i]? = some d := ⟨l[i], List.getElem?_eq_getElem hil⟩
          obtain ⟨b, oo, cap, cs, ro, e, hb, hg0, hrow, hbd, e0, e3⟩ := deed_row hv hd
          have hg := (hle.get b hb).trans hg0
          simp -implicitDefEqProofs [t0, t1, t5, t6, t7, e, hil, hil', hg, hrow, hbd]
          refine call_of (do_ok c hc hN hL (d := d) hS ho fun H2 tn ok2 => ?_)
          obtain ⟨g2, em, hG2⟩ := good_do hG ho hS.loks d
          obtain ⟨w2, p1, p2, p3, p4⟩ := tn
          have n2 := p1.next
          have hn0 := hle.next
          have hle2 : H.le H2 := ⟨by omega, fun x hx => (p1.get x (by omega) fun hh => by have := hw x hh; omega).trans (hle.get x hx)⟩
          have hw2 : ∀ x, w2 x ≠ 0 → H.next ≤ x := fun x hx => (p2 x hx).elim (hw x) fun z => by omega
          have sw2 : SwD D H2 1 wv (lo.map row1) := sw.fr p1 fun x hx => by have := (hD x hx).1; omega
          have hD2 : ∀ x, D x → w2 x = 0 ∧ H.next ≤ x ∧ x < H2.next := fun x hx => by
            obtain ⟨a1, a2, a3⟩ := hD x hx
            exact ⟨Classical.byContradiction fun hh => by rcases p2 x hh with z | z; exact z a1; omega, a2, by omega⟩
          obtain ⟨S2, hS2⟩ : ∃ S2, S2 = (S.doD d).1 := ⟨_, rfl⟩
          rw [← hS2] at p4 ok2 hG2
          have hlen := ok2.len
          simp -implicitDefEqProofs [t0, t1, t5, t6, t7]
          refine loop_nat c.mono (fun m T HX => ∃ k : Nat, (k : Int) ≤ n ∧ m = n.toNat - k ∧ T 0 = .int .i64 n ∧ T 1 = v ∧ T 5 = .pointer (some ⟨t, 0, none⟩) ∧ T 7 = .int .i64 i ∧ T 8 = .int .i64 k ∧ H2.le HX ∧ LongI w2 g2 n H (T 6) HX) n.toNat ?_ ?_
          · refine ⟨0, by omega, by omega, ?_⟩
            simp -implicitDefEqProofs [t0, t1, t5, t6, t7]
            exact ⟨IHeap.le_refl _, lo, D, sw2, hD2, hlo.mor em, hlol⟩
          · rintro m T HX ⟨k, hk, rfl, t0, t1, t5, t7, t8, kX, lo, D, sw, hD, hlo, hlol⟩
            obtain ⟨wv, t6⟩ : ∃ wv, T 6 = wv := ⟨_, rfl⟩
            rw [t6] at sw
            have iX := p4.le kX
            by_cases hkl : (k : Int) < n
            · have wk : IntKind.i64.wrap ((k : Int) + 1) = (k : Int) + 1 := wrap64 (by omega) (by omega)
              obtain ⟨R, hR'⟩ : ∃ R, S2.at k = some R := by
                unfold Tp.at
                rw [if_pos (by omega), Int.toNat_natCast, List.getElem?_eq_getElem (by omega)]
                exact ⟨_, rfl⟩
              simp -implicitDefEqProofs [t0, t1, t5, t6, t7, t8, hkl]
              refine call_of (TLog_ok c hc hN iX (fun h => by rw [h] at hR'; cases hR') fun R2 hR2 v9 HY kY gY => ?_)
              rw [hR'] at hR2
              injection hR2 with hR2
              subst hR2
              obtain ⟨r0, r1, r2⟩ := Tp.at_some hR'
              obtain ⟨lg, hlg⟩ : ∃ lg, lg = logL R.L 0 := ⟨_, rfl⟩
              have hLok := iX.loks R (Tp.at_mem hR')
              have hlgG : LogG g2 n lg := by rw [hlg]; exact hG2.log r2 hLok
              have hlgl : lg.length ≤ 1024 := by rw [hlg]; exact logL_len hLok 0
              rw [← hlg] at gY
              have sY : SwD (fun b => HX.next ≤ b ∧ b < HY.next) HY 1 v9 (lg.map row1) := gY.swD
              have sO := sw.le kY
              obtain ⟨ga, gc, hge⟩ := sY.2.len
              obtain ⟨sa, sc, hse⟩ := sO.2.len
              rw [List.length_map] at hge hse
              obtain ⟨m, hm⟩ : ∃ m : Nat, m = min lg.length lo.length := ⟨_, rfl⟩
              have hmx : (if lo.length < lg.length then (lo.length : Int) else (lg.length : Int)) = (m : Int) := by split <;> omega
              have sY2 := sY.2
              have sO2 := sO.2
              rw [hge] at sY2
              rw [hse] at sO2
              obtain ⟨u1, a1, a2⟩ := sY2.cut (by omega) (Nat.zero_le m) (by rw [List.length_map]; omega)
              obtain ⟨u2, b1, b2⟩ := sO2.cut (by omega) (Nat.zero_le m) (by rw [List.length_map]; omega)
              rw [List.drop_zero, Nat.sub_zero, ← List.map_take] at a2 b2
              have hm1 : (m : Int) ≤ (lg.length : Int) := by omega
              have hm2 : (m : Int) ≤ (lo.length : Int) := by omega
              simp -implicitDefEqProofs [t0, t1, t5, t6, t7, t8, hge, hse, hmx, boundsI, natI, a1, b1, hm1, hm2]
              have hagree : lg.take m = lo.take m := hlgG.agree hq hG2.ok hlo (by omega) (by omega)
              refine dcall_of c.mono (refTexts01_ok c hR (l := lg.take m) (m := lo.take m) a2.1 b2.1 (by rw [List.length_take]; omega) ?_)
              rw [decide_eq_true hagree]
              by_cases hlong : lo.length < lg.length
              · have hlong' : (lo.length : Int) < (lg.length : Int) := by omega
                simp -implicitDefEqProofs [t0, t1, t5, t6, t7, t8, hge, hse, hlong, hlong', wk]
                have hnY := kY.next
                have hnX := kX.next
                have hn2 := hle2.next
                refine ⟨n.toNat - (k + 1), by omega, k + 1, by omega, rfl, rfl, kX.trans kY, lg, fun b => HX.next ≤ b ∧ b < HY.next, by rw [← hge]; exact sY, fun b hb => ⟨Classical.byContradiction fun hh => by have := iX.lt b hh; omega, by omega, hb.2⟩, hlgG, hlgl⟩
              · have hlong' : ¬ (lo.length : Int) < (lg.length : Int) := by omega
                simp -implicitDefEqProofs [t0, t1, t5, t6, t7, t8, hge, hse, hlong, hlong', wk]
                have hnY := kY.next
                exact ⟨n.toNat - (k + 1), by omega, k + 1, by omega, rfl, rfl, kX.trans kY, lo, D, by rw [← hse]; exact sO, fun b hb => ⟨(hD b hb).1, (hD b hb).2.1, by have := (hD b hb).2.2; omega⟩, hlo, hlol⟩
            · have hkl' : k = n.toNat := by omega
              simp -implicitDefEqProofs [t0, t1, t5, t6, t7, t8, hkl, wi]
              have hnX := kX.next
              exact ⟨l.length - (i + 1), by omega, i + 1, by omega, rfl, e, rfl, w2, S2, g2, hle2.trans kX, hw2, iX, ok2, hG2, lo, D, sw, hD, hlo, hlol⟩
        · have hil' : ¬ (i : Int) < (l.length : Int) := by omega
          simp -implicitDefEqProofs [t0, t1, t5, t6, t7, hve, hil, hil']
          refine call_of (hW _ _ fun H' => ?_)
          simp -implicitDefEqProofs []
          exact hK _
end
end Go.Proofs.YtpbbjfighohokaaI
